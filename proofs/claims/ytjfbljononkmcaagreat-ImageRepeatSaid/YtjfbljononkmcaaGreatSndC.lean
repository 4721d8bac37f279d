/- The builtins len, min, max and append. -/
import Derived.Test.YtjfbljononkmcaaGreatSndB
import Derived.Lib.AppendZeros
import Derived.MapKept
import Derived.ChangeMaps4
namespace Go.Gs

/-- There is a state in which the operands are so. -/
def Live (lm : Nat → Option Mem) (svs : List SV) : Prop := ∃ (Keep : Nat → Prop) (M : List (Nat × Mem)) (ρ : Names) (w : World) (vs : List Value),
  (∀ k m, lm k = some m → lookM M k = some m) ∧ MemOK Keep M ρ w ∧ Gs (fun b => Keep b ∨ Own M ρ b) (Own M ρ) ρ w svs vs

theorem run_builtin {P : Program} {o : Oper} {c : Call} {b : Builtin} (ho : o.op = .call c) (hb : c.callee = .builtin b) {a : Act} {w : World} {vs : List Value} (hv : c.args.toList.map a.eval = vs) :
    ∃ cs, (execOp a.eval o).run P w = (builtin b c.argTypes o.type cs vs.toArray).run P w := by
  have h : c.args.map a.eval = vs.toArray := by apply Array.ext'; simp [hv]
  have h2 : ∃ cs, (do let d ← resolve a.eval c o.type; invoke d.target d.args : Sem Next) = builtin b c.argTypes o.type cs (c.args.map a.eval) := by
    unfold resolve; rw [hb]; exact ⟨_, rfl⟩
  obtain ⟨cs, h2⟩ := h2
  refine ⟨cs, ?_⟩
  simp only [execOp, ho]
  rw [h2, h]

theorem gs_args {c : Call} {b : Builtin} (hb : c.callee = .builtin b) {a : Act} {S Pm : Nat → Prop} {ρ : Names} {w : World} {svs : List SV} (h : Gs S Pm ρ w svs ((operandsL (.call c)).map a.eval)) :
    Gs S Pm ρ w svs (c.args.toList.map a.eval) := by simpa [operandsL, hb, calleeL] using h

theorem types_one {tys : Array TypeId} {t : TypeId} (h : tys.toList = [t]) : tys = #[t] := by apply Array.ext'; simpa using h
theorem types_two {tys : Array TypeId} {t u : TypeId} (h : tys.toList = [t, u]) : tys = #[t, u] := by apply Array.ext'; simpa using h

theorem len_run {P : Program} {t e ty : TypeId} (ht : P.underlying t = some (.slice e)) (w : World) (a : Option Addr) (n c : Nat) : (Builtin.len_ #[t] ty #[.slice a n c]).run P w = .ok (.int .i64 n) w := by
  simp [Builtin.len_, run_underlying ht, goInt]

theorem cap_run {P : Program} {t e ty : TypeId} (ht : P.underlying t = some (.slice e)) (w : World) (a : Option Addr) (n c : Nat) : (Builtin.cap_ #[t] ty #[.slice a n c]).run P w = .ok (.int .i64 c) w := by
  simp [Builtin.cap_, run_underlying ht, goInt]

theorem sl_val {S Pm : Nat → Prop} {ρ : Names} {w : World} {α : Type} {enc : α → List SV} {xs : List α} {v : Value} (h : G S Pm ρ w (.sl enc xs) v) :
    xs.length ≤ 9223372036854775807 ∧ ∃ a cap, v = .slice a xs.length cap ∧ xs.length ≤ cap := by
  rcases h.sl_inv.sl_inv with ⟨rfl, a, rfl⟩ | ⟨_, b, o, cap, _, rfl, _, _, h1, h2, _⟩
  · exact ⟨by simp, a, 0, rfl, by simp⟩
  · exact ⟨h1, _, cap, rfl, h2⟩

theorem own_val {Keep : Nat → Prop} {M : List (Nat × Mem)} {ρ : Names} {w : World} (hm : MemOK Keep M ρ w) {k : Nat} {T : TypeId} {α : Type} {enc : α → List SV} {sz : Nat} {xs : List α}
    (hk : (k, Mem.arr T enc sz xs) ∈ M) {v : Value} (hv : ρ k = some v) : xs.length ≤ 281474976710656 ∧ ∃ a cap, v = .slice a xs.length cap ∧ xs.length ≤ cap := by
  obtain ⟨v', cells, hρ, hown, hlen, _⟩ := hm.rel k _ hk
  rw [hv] at hρ; cases hρ
  rcases hown.2 with ⟨rfl, h0⟩ | ⟨g, cap, cur, rfl, _, _, hnc, _⟩
  · have h0 : xs.length = 0 := h0
    exact ⟨hlen, none, 0, by rw [h0], by omega⟩
  · exact ⟨hlen, _, cap, rfl, hnc⟩

theorem own_valG {Keep : Nat → Prop} {M : List (Nat × Mem)} {ρ : Names} {w : World} (hm : MemOK Keep M ρ w) {k : Nat} {T : TypeId} {sz : Nat} {xs : List (List SV)}
    (hk : (k, Mem.garr T sz xs) ∈ M) {v : Value} (hv : ρ k = some v) : xs.length ≤ 281474976710656 ∧ ∃ a cap, v = .slice a xs.length cap ∧ xs.length ≤ cap := by
  obtain ⟨v', cells, hρ, hown, hlen, _⟩ := hm.rel k _ hk
  rw [hv] at hρ; cases hρ
  rcases hown.2 with ⟨rfl, h0⟩ | ⟨g, cap, cur, rfl, _, _, hnc, _⟩
  · have h0 : xs.length = 0 := h0
    exact ⟨hlen, none, 0, by rw [h0], by omega⟩
  · exact ⟨hlen, _, cap, rfl, hnc⟩

theorem ints_elim : ∀ {s : List SV} {K : IntKind → List Int → Prop}, ints s K → ∃ (k : IntKind) (x : Int) (r : List Int), K k (x :: r) ∧
    ∀ {S Pm : Nat → Prop} {ρ : Names} {w : World} {vs : List Value}, Gs S Pm ρ w s vs → ∃ us : List Value, vs = .int k x :: us ∧ us.length = r.length ∧ ∀ (j : Nat) (y : Int), r[j]? = some y → ∃ k', us[j]? = some (.int k' y)
  | [], K, h => by simp [ints] at h
  | s :: r, K, h => by
    unfold ints at h
    split at h
    · rename_i k m r' heq
      cases heq
      split at h
      · refine ⟨k, m, [], h, fun hg => ?_⟩
        obtain ⟨v, vs', rfl, h1, h2⟩ := hg.cons_inv
        exact ⟨[], by rw [h1.val_inv, h2.nil_inv], rfl, fun j y hy => by simp at hy⟩
      · obtain ⟨k2, x2, r2, hK, hg2⟩ := ints_elim h
        refine ⟨k, m, x2 :: r2, hK, fun hg => ?_⟩
        obtain ⟨v, vs', rfl, h1, h2⟩ := hg.cons_inv
        obtain ⟨us, rfl, hl, hy⟩ := hg2 h2
        refine ⟨.int k2 x2 :: us, by rw [h1.val_inv], by simp [hl], fun j y hj => ?_⟩
        cases j with
        | zero => simp at hj; subst hj; exact ⟨k2, rfl⟩
        | succ j => simpa using hy j y (by simpa using hj)
    · exact h.elim

theorem min_fold {P : Program} {w : World} {k : IntKind} : ∀ (r : List Int) (us : List Value) (x : Int), us.length = r.length → (∀ (j : Nat) (y : Int), r[j]? = some y → ∃ k', us[j]? = some (.int k' y)) →
    (us.foldlM Builtin.min2 (.int k x)).run P w = .ok (.int k (minL x r)) w
  | [], us, x, hl, _ => by
    have : us = [] := List.eq_nil_of_length_eq_zero hl
    subst this; simp [minL]
  | y :: r, us, x, hl, hy => by
    cases us with
    | nil => simp at hl
    | cons u us =>
      obtain ⟨k', hu⟩ := hy 0 y rfl
      simp at hu; subst hu
      have hmin : (if y < x then y else x) = min x y := by omega
      simp only [List.foldlM_cons, Builtin.min2, Sem.run_bind, Sem.run_pure, Result.andThen_ok, hmin, minL]
      exact min_fold r us (min x y) (by simpa using hl) (fun j z hz => by simpa using hy (j + 1) z (by simpa using hz))

theorem max_fold {P : Program} {w : World} {k : IntKind} : ∀ (r : List Int) (us : List Value) (x : Int), us.length = r.length → (∀ (j : Nat) (y : Int), r[j]? = some y → ∃ k', us[j]? = some (.int k' y)) →
    (us.foldlM Builtin.max2 (.int k x)).run P w = .ok (.int k (maxL x r)) w
  | [], us, x, hl, _ => by
    have : us = [] := List.eq_nil_of_length_eq_zero hl
    subst this; simp [maxL]
  | y :: r, us, x, hl, hy => by
    cases us with
    | nil => simp at hl
    | cons u us =>
      obtain ⟨k', hu⟩ := hy 0 y rfl
      simp at hu; subst hu
      have hmax : (if y > x then y else x) = max x y := by omega
      simp only [List.foldlM_cons, Builtin.max2, Sem.run_bind, Sem.run_pure, Result.andThen_ok, hmax, maxL]
      exact max_fold r us (max x y) (by simpa using hl) (fun j z hz => by simpa using hy (j + 1) z (by simpa using hz))

/-- What an append reads. -/
def Src (S : Nat → Prop) (w : World) {α : Type} (enc : α → List SV) (sz : Nat) (ys : List α) (v : Value) (news : List Value) : Prop :=
  news.length = ys.length * sz ∧ (∀ u ∈ news, u.oneCell' = true) ∧
  (∀ (i j : Nat) y (s : SV), ys[i]? = some y → (enc y)[j]? = some s → ∃ u, news[i * sz + j]? = some u ∧ D S w s u) ∧
  ((v = .slice none 0 0 ∧ ys = []) ∨ ∃ a c, v = .slice (some a) ys.length c ∧ ∀ (j : Nat) (u : Value), news[j]? = some u → w.cell? (a.add j) = some u)

theorem src_of_d {S : Nat → Prop} {w : World} {α : Type} {enc : α → List SV} {ys : List α} {v : Value} (hd : D S w (.sl enc ys) v) {sz : Nat} (h0 : 0 < sz) (hsz : ∀ x ∈ ys, (enc x).length = sz) :
    ∃ news, Src S w enc sz ys v news := by
  rcases hd.sl_inv with ⟨rfl, a, rfl⟩ | ⟨sz', b, o, cap, c, rfl, hb, hS, hlen, hcap, hesz, hc, he⟩
  · cases a with
    | none => exact ⟨[], by simp, by simp, fun i j y s h => by simp at h, .inl ⟨rfl, rfl⟩⟩
    | some a => exact ⟨[], by simp, by simp, fun i j y s h => by simp at h, .inr ⟨a, 0, rfl, fun j u hu => by simp at hu⟩⟩
  · have hs : ys ≠ [] → sz' = sz := fun hne => by
      obtain ⟨x, hx⟩ := List.exists_mem_of_ne_nil ys hne
      rw [← hesz x hx, ← hsz x hx]
    have hq : ∀ q, q < ys.length * sz → q / sz < ys.length ∧ q % sz < sz ∧ sz' = sz ∧ q / sz * sz + q % sz = q := fun q hq => by
      have h1 : q / sz < ys.length := (Nat.div_lt_iff_lt_mul h0).2 hq
      refine ⟨h1, Nat.mod_lt _ h0, hs (fun e => by rw [e] at h1; simp at h1), ?_⟩
      rw [Nat.mul_comm]; exact Nat.div_add_mod q sz
    refine ⟨(List.range (ys.length * sz)).map fun q => c (q / sz) (q % sz), by simp, ?_, ?_, .inr ⟨_, cap, rfl, ?_⟩⟩
    · intro u hu
      obtain ⟨q, hq', rfl⟩ := List.mem_map.1 hu
      obtain ⟨h1, h2, h3, _⟩ := hq q (List.mem_range.1 hq')
      exact (hc _ _ h1 (h3 ▸ h2)).2
    · intro i j y s hy hs'
      have hi : i < ys.length := (List.getElem?_eq_some_iff.1 hy).1
      have hj : j < sz := by
        have := (List.getElem?_eq_some_iff.1 hs').1
        rw [hsz y (List.mem_of_getElem? hy)] at this; exact this
      have hlt : i * sz + j < ys.length * sz := by
        have := Nat.mul_le_mul_right sz (Nat.succ_le_of_lt hi)
        rw [Nat.succ_mul] at this; omega
      have e1 : (i * sz + j) / sz = i := by rw [Nat.mul_comm, Nat.mul_add_div h0]; simp [Nat.div_eq_of_lt hj]
      have e2 : (i * sz + j) % sz = j := by rw [Nat.mul_comm, Nat.mul_add_mod]; exact Nat.mod_eq_of_lt hj
      refine ⟨c i j, by simp [hlt, e1, e2], he i j y s hy hs'⟩
    · intro q u hu
      have hq' : q < ys.length * sz := by have := (List.getElem?_eq_some_iff.1 hu).1; simpa using this
      obtain ⟨h1, h2, h3, h4⟩ := hq q hq'
      simp [hq'] at hu
      subst hu
      subst h3
      rw [addr_add]
      have := (hc _ _ h1 h2).1
      rw [Nat.add_assoc, h4] at this
      exact this

theorem readAs_src {lm : Nat → Option Mem} {s : SV} {α : Type} {enc : α → List SV} {ys : List α} (h : readAs lm s enc ys) {Keep : Nat → Prop} {M : List (Nat × Mem)} {ρ : Names} {w : World}
    (hlm : ∀ k m, lm k = some m → lookM M k = some m) (hm : MemOK Keep M ρ w) {v : Value} (hg : G (fun b => Keep b ∨ Own M ρ b) (Own M ρ) ρ w s v) {sz : Nat} (h0 : 0 < sz)
    (hsz : ∀ x ∈ ys, (enc x).length = sz) : ∃ news, Src (fun b => Keep b ∨ Own M ρ b) w enc sz ys v news := by
  unfold readAs at h
  split at h
  · subst h
    rw [hg.val_inv]
    exact ⟨[], by simp, by simp, fun i j y s h => by simp at h, .inl ⟨rfl, rfl⟩⟩
  · rename_i k
    simp only [view1] at h
    split at h
    · rename_i T β enc' sz' xs hlk
      cases h
      obtain ⟨hv, _⟩ := hg.own_inv
      obtain ⟨v', cells, hρ, hown, hlen, hone, hesz, hcells⟩ := hm.rel k _ (mem_lookM (hlm k _ hlk))
      rw [hv] at hρ; cases hρ
      rcases hown.2 with ⟨rfl, he⟩ | ⟨g, cap, cur, rfl, _, hheap, hnc, hcm, hcs, htake⟩
      · have : ys = [] := List.eq_nil_of_length_eq_zero he
        subst this
        exact ⟨[], by simp, by simp, fun i j y s h => by simp at h, .inl ⟨rfl, rfl⟩⟩
      · by_cases hne : ys = []
        · subst hne
          exact ⟨[], by simp, by simp, fun i j y s h => by simp at h, .inr ⟨_, cap, rfl, fun j u hu => by simp at hu⟩⟩
        · obtain ⟨x, hx⟩ := List.exists_mem_of_ne_nil ys hne
          have : sz' = sz := by rw [← hesz x hx, ← hsz x hx]
          subst this
          exact ⟨cells, hown.1, hone, hcells, .inr ⟨_, cap, rfl, fun j u hu => by rw [addr_add, Nat.zero_add]; exact own_cell hheap htake hu⟩⟩
    · cases h
  · subst h
    exact src_of_d hg.sl_inv h0 hsz

/-- An append to an owned row. -/
theorem append_run {P : Program} {t ty e : TypeId} {f : TypeInfo} {z : Value} (ht : P.underlying t = some (.slice e)) (hi : P.info? e = some f) (hz : f.zero = some z) (hzs : z.cells.size = f.size)
    {w : World} {v : Value} {n : Nat} {cells : List Value} (hown : w.ownsRow 0 e f.size v n cells) {S : Nat → Prop} {α : Type} {enc : α → List SV} {ys : List α} {vx : Value} {news : List Value}
    (hs : Src S w enc f.size ys vx news) (h63 : n + ys.length ≤ maxLen) (hbytes : (n + ys.length) * f.bytes ≤ 140737488355328) :
    ∃ v' w', (Builtin.append_ #[t, t] ty #[v, vx]).run P w = .ok v' w' ∧ w'.ownsRow 0 e f.size v' (n + ys.length) (cells ++ news) ∧ w'.os = w.os ∧ w'.tape = w.tape ∧ SameOut w w' ∧ w.heap.size ≤ w'.heap.size ∧
      (∀ b, b < w.heap.size → blkOf v ≠ some b → w'.heap[b]? = w.heap[b]?) ∧ (blkOf v' = blkOf v ∨ (blkOf v' = some w.heap.size ∧ w.heap.size < w'.heap.size)) ∧ v'.oneCell' = true := by
  obtain ⟨hl, hone, _, hv⟩ := hs
  have h63' : (n + ys.length : Int) ≤ 9223372036854775807 := by unfold maxLen at h63; omega
  have made : ∀ (old : Nat), old < n + ys.length → (w.drew.alloc (.cells (cells.toArray ++ news.toArray ++ Builtin.zeroCells z.cells (grownCap w (n + ys.length) old e - (n + ys.length))) e)).ownsRow 0 e f.size
        (.slice (some ⟨w.heap.size, 0, none⟩) (n + ys.length) (grownCap w (n + ys.length) old e)) (n + ys.length) (cells ++ news) := by
    intro old _
    have hge := grownCap_ge w (n + ys.length) old e
    have hcl := hown.1
    refine ⟨by rw [List.length_append, hcl, hl, Nat.add_mul], .inr ⟨w.heap.size, _, _, rfl, Nat.zero_le _, heap_alloc_new w.drew _, hge, grownCap_le_maxLen w _ old e h63, ?_, ?_⟩⟩
    · simp only [Array.size_append, List.size_toArray, size_zeroCells, hzs, hcl, hl, ← Nat.add_mul]
      congr 1
      omega
    · simp only [Array.toList_append]
      rw [List.take_append_of_le_length (by simp [hcl, hl, Nat.add_mul])]
      exact List.take_of_length_le (by simp [hcl, hl, Nat.add_mul])
  rcases hv with ⟨rfl, rfl⟩ | ⟨a, c, rfl, hcells⟩
  · have hn : news = [] := List.eq_nil_of_length_eq_zero (by simpa using hl)
    subst hn
    rcases hown.2 with ⟨rfl, h0⟩ | ⟨g, cap, cur, rfl, _, hheap, hnc, hcm, hcs, htake⟩
    · refine ⟨.slice none 0 0, w, ?_, ?_, rfl, rfl, .refl _, Nat.le_refl _, fun _ _ _ => rfl, .inl rfl, rfl⟩
      · simp [Builtin.append_, run_underlying ht, sizeOf, typeInfo, hi, Builtin.lenOf, Builtin.firstCells]
      · subst h0
        have hc0 : cells = [] := List.eq_nil_of_length_eq_zero (by simpa using hown.1)
        subst hc0
        exact World.ownsRow_nil w 0 e f.size
    · refine ⟨.slice (some ⟨g, 0, none⟩) n cap, w, ?_, ?_, rfl, rfl, .refl _, Nat.le_refl _, fun _ _ _ => rfl, .inl rfl, rfl⟩
      · simp [Builtin.append_, run_underlying ht, sizeOf, typeInfo, hi, Builtin.lenOf, Builtin.firstCells, hnc, storeCells]
      · simpa using hown
  · rcases hown.2 with ⟨rfl, rfl⟩ | ⟨g, cap, cur, rfl, _, hheap, hnc, hcm, hcs, htake⟩
    · have hc0 : cells = [] := List.eq_nil_of_length_eq_zero (by simpa using hown.1)
      subst hc0
      by_cases hy : ys.length = 0
      · have hn : news = [] := List.eq_nil_of_length_eq_zero (by simpa [hy] using hl)
        subst hn
        refine ⟨.slice none 0 0, w, ?_, ?_, rfl, rfl, .refl _, Nat.le_refl _, fun _ _ _ => rfl, .inl rfl, rfl⟩
        · simp [Builtin.append_, run_underlying ht, sizeOf, typeInfo, hi, Builtin.lenOf, Builtin.firstCells, hy, loadCells, loadCellsFrom]
        · rw [hy]; exact World.ownsRow_nil w 0 e f.size
      · have hr := run_append_nil (P := P) w t ty e f z ht hi hz a ys.length c news hl hcells (by omega) (by simpa using h63') (by have hb := hbytes; simp only [Nat.zero_add] at hb; omega)
        have hgr := made 0 (by omega)
        simp only [Nat.zero_add, List.nil_append, Array.empty_append] at hgr ⊢
        exact ⟨_, _, hr, hgr, rfl, rfl, .cells w.drew _ _, by simp, fun b hb _ => heap_alloc_old w.drew _ b hb, .inr ⟨rfl, by simp⟩, rfl⟩
    · have hcl := hown.1
      by_cases hroom : n + ys.length ≤ cap
      · have hfit : n * f.size + news.length ≤ cur.size := by rw [hl, hcs, ← Nat.add_mul]; exact Nat.mul_le_mul_right _ hroom
        have hr := run_append_room (P := P) w t ty e f ht hi g n cap cur hheap a ys.length c news hl hcells hone hroom hfit
        refine ⟨_, _, hr, ⟨by rw [List.length_append, hcl, hl, Nat.add_mul], .inr ⟨g, cap, _, rfl, Nat.zero_le _, setRow_heap w g cur _ e _ hheap, hroom, hcm, ?_, ?_⟩⟩, rfl, rfl, .setRow _ _ _, by simp,
          fun b _ hne => setRow_other w g b _ (fun e => hne (by simp [blkOf, e])), .inl rfl, rfl⟩
        · simp only [List.size_toArray, List.length_append, List.length_take, List.length_drop, Array.length_toList]
          omega
        · rw [htake, Nat.add_mul, ← hl, ← hcl]
          rw [List.take_append_of_le_length (by simp)]
          exact List.take_of_length_le (by simp)
      · have holds : ∀ (j : Nat) (u : Value), cells[j]? = some u → w.cell? ((⟨g, 0, none⟩ : Addr).add j) = some u := fun j u hu => by rw [addr_add, Nat.zero_add]; exact own_cell hheap htake hu
        have hr := run_append_grow (P := P) w t ty e f z ht hi hz ⟨g, 0, none⟩ n cap cells hcl holds a ys.length c news hl hcells (by omega) (by push_cast; exact h63') (growslice_fits (by omega) hbytes)
        exact ⟨_, _, hr, made cap (by omega), rfl, rfl, .cells w.drew _ _, by simp, fun b hb _ => heap_alloc_old w.drew _ b hb, .inr ⟨rfl, by simp⟩, rfl⟩

/-- An append to a slice without room. -/
theorem append_nils {P : Program} {t ty e : TypeId} {f : TypeInfo} {z : Value} (ht : P.underlying t = some (.slice e)) (hi : P.info? e = some f) (hz : f.zero = some z) (hzs : z.cells.size = f.size)
    {w : World} (ad : Option Addr) {S : Nat → Prop} {α : Type} {enc : α → List SV} {ys : List α} {vx : Value} {news : List Value}
    (hs : Src S w enc f.size ys vx news) (hne : ys ≠ []) (h63 : ys.length ≤ maxLen) (hbytes : ys.length * f.bytes ≤ 140737488355328) :
    ∃ v' w', (Builtin.append_ #[t, t] ty #[.slice ad 0 0, vx]).run P w = .ok v' w' ∧ w'.ownsRow 0 e f.size v' ys.length news ∧ w'.os = w.os ∧ w'.tape = w.tape ∧ SameOut w w' ∧ w.heap.size ≤ w'.heap.size ∧
      (∀ b, b < w.heap.size → w'.heap[b]? = w.heap[b]?) ∧ (blkOf v' = some w.heap.size ∧ w.heap.size < w'.heap.size) ∧ v'.oneCell' = true := by
  obtain ⟨hl, hone, _, hv⟩ := hs
  have h63' : (ys.length : Int) ≤ 9223372036854775807 := by unfold maxLen at h63; omega
  have hpos : 0 < ys.length := List.length_pos_iff.2 hne
  have made : (w.drew.alloc (.cells (news.toArray ++ Builtin.zeroCells z.cells (grownCap w ys.length 0 e - ys.length)) e)).ownsRow 0 e f.size
        (.slice (some ⟨w.heap.size, 0, none⟩) ys.length (grownCap w ys.length 0 e)) ys.length news := by
    have hge := grownCap_ge w ys.length 0 e
    refine ⟨hl, .inr ⟨w.heap.size, _, _, rfl, Nat.zero_le _, heap_alloc_new w.drew _, hge, grownCap_le_maxLen w _ 0 e h63, ?_, ?_⟩⟩
    · simp only [Array.size_append, List.size_toArray, size_zeroCells, hzs, hl, ← Nat.add_mul]
      congr 1
      omega
    · simp only [Array.toList_append]
      rw [List.take_append_of_le_length (by simp [hl])]
      exact List.take_of_length_le (by simp [hl])
  rcases hv with ⟨_, rfl⟩ | ⟨a, c, rfl, hcells⟩
  · exact absurd rfl hne
  · cases ad with
    | none =>
      have hr := run_append_nil (P := P) w t ty e f z ht hi hz a ys.length c news hl hcells (by omega) h63' (by omega)
      exact ⟨_, _, hr, made, rfl, rfl, .cells w.drew _ _, by simp, fun b hb => heap_alloc_old w.drew _ b hb, ⟨rfl, by simp⟩, rfl⟩
    | some g =>
      have hr := run_append_grow (P := P) w t ty e f z ht hi hz g 0 0 [] (by simp) (fun j u hu => by simp at hu) a ys.length c news hl hcells (by omega) (by simpa using h63') (growslice_fits (by omega) (by simpa using hbytes))
      simp only [Nat.zero_add, Array.empty_append] at hr
      exact ⟨_, _, hr, made, rfl, rfl, .cells w.drew _ _, by simp, fun b hb => heap_alloc_old w.drew _ b hb, ⟨rfl, by simp⟩, rfl⟩

/-- Behind a slice of data whose capacity is its length. -/
theorem append_full {P : Program} {t ty e : TypeId} {f : TypeInfo} {z : Value} (ht : P.underlying t = some (.slice e)) (hi : P.info? e = some f) (hz : f.zero = some z) (hzs : z.cells.size = f.size)
    {w : World} (ad : Option Addr) {S : Nat → Prop} {α : Type} {enc : α → List SV} {xs ys : List α} {vx : Value} {olds news : List Value}
    (ho : Src S w enc f.size xs (.slice ad xs.length xs.length) olds) (hs : Src S w enc f.size ys vx news) (hne : ys ≠ []) (h63 : xs.length + ys.length ≤ maxLen) (hbytes : (xs.length + ys.length) * f.bytes ≤ 140737488355328) :
    ∃ v' w', (Builtin.append_ #[t, t] ty #[.slice ad xs.length xs.length, vx]).run P w = .ok v' w' ∧ w'.ownsRow 0 e f.size v' (xs.length + ys.length) (olds ++ news) ∧ w'.os = w.os ∧ w'.tape = w.tape ∧ SameOut w w' ∧ w.heap.size ≤ w'.heap.size ∧
      (∀ b, b < w.heap.size → w'.heap[b]? = w.heap[b]?) ∧ (blkOf v' = some w.heap.size ∧ w.heap.size < w'.heap.size) ∧ v'.oneCell' = true := by
  obtain ⟨hl, hone, _, hv⟩ := hs
  obtain ⟨hol, _, _, hov⟩ := ho
  have h63' : (xs.length + ys.length : Int) ≤ 9223372036854775807 := by unfold maxLen at h63; omega
  have hpos : 0 < ys.length := List.length_pos_iff.2 hne
  have made : ∀ old : Nat, (w.drew.alloc (.cells (olds.toArray ++ news.toArray ++ Builtin.zeroCells z.cells (grownCap w (xs.length + ys.length) old e - (xs.length + ys.length))) e)).ownsRow 0 e f.size
        (.slice (some ⟨w.heap.size, 0, none⟩) (xs.length + ys.length) (grownCap w (xs.length + ys.length) old e)) (xs.length + ys.length) (olds ++ news) := by
    intro old
    have hge := grownCap_ge w (xs.length + ys.length) old e
    refine ⟨by rw [List.length_append, hol, hl, Nat.add_mul], .inr ⟨w.heap.size, _, _, rfl, Nat.zero_le _, heap_alloc_new w.drew _, hge, grownCap_le_maxLen w _ old e h63, ?_, ?_⟩⟩
    · simp only [Array.size_append, List.size_toArray, size_zeroCells, hzs, hol, hl, ← Nat.add_mul]
      congr 1
      omega
    · simp only [Array.toList_append]
      rw [List.take_append_of_le_length (by simp [hol, hl, Nat.add_mul])]
      exact List.take_of_length_le (by simp [hol, hl, Nat.add_mul])
  rcases hv with ⟨_, rfl⟩ | ⟨a, c, rfl, hcells⟩
  · exact absurd rfl hne
  · cases ad with
    | none =>
      have hx0 : xs = [] := by
        rcases hov with ⟨_, h⟩ | ⟨_, _, h, _⟩
        · exact h
        · cases h
      subst hx0
      have ho0 : olds = [] := List.eq_nil_of_length_eq_zero (by simpa using hol)
      subst ho0
      have hr := run_append_nil (P := P) w t ty e f z ht hi hz a ys.length c news hl hcells (by omega) (by simpa using h63') (by simp only [List.length_nil, Nat.zero_add] at hbytes; omega)
      have := made 0
      simp only [List.length_nil, Nat.zero_add, List.nil_append] at this
      refine ⟨_, _, hr, ?_, rfl, rfl, .cells w.drew _ _, by simp, fun b hb => heap_alloc_old w.drew _ b hb, ⟨rfl, by simp⟩, rfl⟩
      simpa using this
    | some g =>
      have hcell : ∀ (j : Nat) (u : Value), olds[j]? = some u → w.cell? (g.add j) = some u := by
        rcases hov with ⟨h, _⟩ | ⟨a', c', h, hc⟩
        · cases h
        · cases h; exact hc
      have hr := run_append_grow (P := P) w t ty e f z ht hi hz g xs.length xs.length olds (by simp [hol]) hcell a ys.length c news hl hcells (by omega) (by simpa using h63') (growslice_fits (by omega) (by simpa using hbytes))
      exact ⟨_, _, hr, made _, rfl, rfl, .cells w.drew _ _, by simp, fun b hb => heap_alloc_old w.drew _ b hb, ⟨rfl, by simp⟩, rfl⟩

theorem builtin_sound {P : Program} {Γ : List (TypeId × TI)} (hT : TOK P Γ) {c : Call} {b : Builtin} (hb : c.callee = .builtin b) {svs : List SV} {lm : Nat → Option Mem} {κ : Nat} {K : SV → MD → Prop}
    (hlive : Live lm svs) (h : builtinV Γ b c.argTypes.toList svs lm κ K) : ∃ r md, K r md ∧ OpOK P (.call c) svs lm κ r md := by
  obtain ⟨Keep0, M0, ρ0, w0, vs0, hlm0, hm0, hg0⟩ := hlive
  unfold builtinV at h
  split at h
  · rename_i s
    split at h
    · rename_i t htys
      have htys := types_one htys
      replace h := withT_elim h; obtain ⟨i, hi, h⟩ := h
      have hk := (hT t i hi).kind
      split at h
      · rename_i e hkind
        rw [hkind] at hk
        have hk : P.underlying t = some (.slice e) := hk
        unfold lenOf at h
        split at h
        · rename_i α enc xs
          obtain ⟨v0, vs0', rfl, g0, _⟩ := hg0.cons_inv
          refine ⟨_, _, h (sl_val g0).1, .pure fun o ho S Pm ρ a w hgs => ?_⟩
          have hgs := gs_args hb hgs
          obtain ⟨v, vs', hvs, g, gr⟩ := hgs.cons_inv
          obtain ⟨_, ad, cap, hv, _⟩ := sl_val g
          obtain ⟨cs, hr⟩ := run_builtin (P := P) (w := w) ho hb hvs
          refine ⟨_, ?_, (Good.val _).g⟩
          rw [hr, gr.nil_inv, hv, htys]
          simp only [builtin, Sem.run_bind, len_run hk w ad _ cap, Result.andThen_ok, Sem.run_pure]
        · rename_i k
          split at h
          · rename_i T α enc sz xs hlk
            obtain ⟨v0, vs0', rfl, g0, _⟩ := hg0.cons_inv
            refine ⟨_, _, h (own_val hm0 (mem_lookM (hlm0 k _ hlk)) g0.own_inv.1).1, .read fun o ho Keep M ρ a w hlm hm hgs => ?_⟩
            have hgs := gs_args hb hgs
            obtain ⟨v, vs', hvs, g, gr⟩ := hgs.cons_inv
            obtain ⟨_, ad, cap, hv, _⟩ := own_val hm (hlm k _ hlk) g.own_inv.1
            obtain ⟨cs, hr⟩ := run_builtin (P := P) (w := w) ho hb hvs
            refine ⟨_, ?_, (Good.val _).g⟩
            rw [hr, gr.nil_inv, hv, htys]
            simp only [builtin, Sem.run_bind, len_run hk w ad _ cap, Result.andThen_ok, Sem.run_pure]
          · rename_i T sz xs hlk
            obtain ⟨v0, vs0', rfl, g0, _⟩ := hg0.cons_inv
            refine ⟨_, _, h (own_valG hm0 (mem_lookM (hlm0 k _ hlk)) g0.own_inv.1).1, .read fun o ho Keep M ρ a w hlm hm hgs => ?_⟩
            have hgs := gs_args hb hgs
            obtain ⟨v, vs', hvs, g, gr⟩ := hgs.cons_inv
            obtain ⟨_, ad, cap, hv, _⟩ := own_valG hm (hlm k _ hlk) g.own_inv.1
            obtain ⟨cs, hr⟩ := run_builtin (P := P) (w := w) ho hb hvs
            refine ⟨_, ?_, (Good.val _).g⟩
            rw [hr, gr.nil_inv, hv, htys]
            simp only [builtin, Sem.run_bind, len_run hk w ad _ cap, Result.andThen_ok, Sem.run_pure]
          · exact h.elim
        · refine ⟨_, _, h, .pure fun o ho S Pm ρ a w hgs => ?_⟩
          have hgs := gs_args hb hgs
          obtain ⟨v, vs', hvs, g, gr⟩ := hgs.cons_inv
          obtain ⟨cs, hr⟩ := run_builtin (P := P) (w := w) ho hb hvs
          refine ⟨_, ?_, (Good.val _).g⟩
          rw [hr, gr.nil_inv, g.val_inv, htys]
          simp only [builtin, Sem.run_bind, len_run hk w none 0 0, Result.andThen_ok, Sem.run_pure]
          rfl
        · refine ⟨_, _, h, .pure fun o ho S Pm ρ a w hgs => ?_⟩
          have hgs := gs_args hb hgs
          obtain ⟨v, vs', hvs, g, gr⟩ := hgs.cons_inv
          obtain ⟨cs, hr⟩ := run_builtin (P := P) (w := w) ho hb hvs
          obtain ⟨ad, hv⟩ := g.nils_inv
          refine ⟨_, ?_, (Good.val _).g⟩
          rw [hr, gr.nil_inv, hv, htys]
          simp only [builtin, Sem.run_bind, len_run hk w ad 0 0, Result.andThen_ok, Sem.run_pure]
          rfl
        · rename_i k sz lo n
          obtain ⟨h0, h⟩ := h
          refine ⟨_, _, h, .pure fun o ho S Pm ρ a w hgs => ?_⟩
          have hgs := gs_args hb hgs
          obtain ⟨v, vs', hvs, g, gr⟩ := hgs.cons_inv
          obtain ⟨cs, hr⟩ := run_builtin (P := P) (w := w) ho hb hvs
          obtain ⟨b, len, cap, cap', _, hv, _⟩ := g.win_inv
          refine ⟨_, ?_, (Good.val _).g⟩
          rw [hr, gr.nil_inv, hv, htys]
          simp only [builtin, Sem.run_bind, len_run hk w (some ⟨b, lo.toNat * sz, none⟩) n.toNat cap', Result.andThen_ok, Sem.run_pure]
          rw [Int.toNat_of_nonneg h0]
        · exact h.elim
      · exact h.elim
    · exact h.elim
  · rename_i s
    split at h
    · rename_i t htys
      have htys := types_one htys
      replace h := withT_elim h; obtain ⟨i, hi, h⟩ := h
      have hk := (hT t i hi).kind
      split at h
      · rename_i e hkind
        rw [hkind] at hk
        have hk : P.underlying t = some (.slice e) := hk
        split at h
        · refine ⟨_, _, h, .pure fun o ho S Pm ρ a w hgs => ?_⟩
          have hgs := gs_args hb hgs
          obtain ⟨v, vs', hvs, g, gr⟩ := hgs.cons_inv
          obtain ⟨cs, hr⟩ := run_builtin (P := P) (w := w) ho hb hvs
          refine ⟨_, ?_, (Good.val _).g⟩
          rw [hr, gr.nil_inv, g.val_inv, htys]
          simp only [builtin, Sem.run_bind, cap_run hk w none 0 0, Result.andThen_ok, Sem.run_pure]
          rfl
        · refine ⟨_, _, h, .pure fun o ho S Pm ρ a w hgs => ?_⟩
          have hgs := gs_args hb hgs
          obtain ⟨v, vs', hvs, g, gr⟩ := hgs.cons_inv
          obtain ⟨cs, hr⟩ := run_builtin (P := P) (w := w) ho hb hvs
          obtain ⟨ad, hv⟩ := g.nils_inv
          refine ⟨_, ?_, (Good.val _).g⟩
          rw [hr, gr.nil_inv, hv, htys]
          simp only [builtin, Sem.run_bind, cap_run hk w ad 0 0, Result.andThen_ok, Sem.run_pure]
          rfl
        · exact h.elim
      · exact h.elim
    · exact h.elim
  · rename_i s _
    obtain ⟨k, x, r, hK, he⟩ := ints_elim h
    refine ⟨_, _, hK, .pure fun o ho S Pm ρ a w hgs => ?_⟩
    have hgs := gs_args hb hgs
    obtain ⟨us, hvs, hl, hy⟩ := he hgs
    obtain ⟨cs, hr⟩ := run_builtin (P := P) (w := w) ho hb hvs
    refine ⟨_, ?_, (Good.val _).g⟩
    rw [hr]
    simp only [builtin, Builtin.min_, Sem.run_bind, min_fold r us x hl hy, Result.andThen_ok, Sem.run_pure]
  · rename_i s _
    obtain ⟨k, x, r, hK, he⟩ := ints_elim h
    refine ⟨_, _, hK, .pure fun o ho S Pm ρ a w hgs => ?_⟩
    have hgs := gs_args hb hgs
    obtain ⟨us, hvs, hl, hy⟩ := he hgs
    obtain ⟨cs, hr⟩ := run_builtin (P := P) (w := w) ho hb hvs
    refine ⟨_, ?_, (Good.val _).g⟩
    rw [hr]
    simp only [builtin, Builtin.max_, Sem.run_bind, max_fold r us x hl hy, Result.andThen_ok, Sem.run_pure]
  · rename_i s x
    split at h
    · rename_i kx n
      unfold appendZ at h
      split at h
      · rename_i t t' htys
        have htys := types_two htys
        replace h := withT_elim h; obtain ⟨i, hi, h⟩ := h
        replace h := withT_elim h; obtain ⟨i', hi', h⟩ := h
        have hk := (hT t i hi).kind
        have hk' := (hT t' i' hi').kind
        split at h
        · rename_i e kn hkind hkind'
          rw [hkind] at hk
          rw [hkind'] at hk'
          have hk : P.underlying t = some (.slice e) := hk
          have hk' : P.underlying t' = some (.int kn) := hk'
          replace h := withT_elim h; obtain ⟨j, hj, h⟩ := h
          obtain ⟨f, h1, h2, h3, z, h4, h5, h6, h7, h8⟩ := (hT e j hj).inf
          have hzl : z.cells = j.zero.toArray := by rw [← h5]
          have hzs : z.cells.size = f.size := by rw [h2, ← h7, ← h5]; simp
          obtain ⟨α, enc, x0, hz, h⟩ := h
          obtain ⟨e0, e1, e2, e3⟩ := h.ob
          refine ⟨_, _, h.go, fun o ho Keep M ρ a w hlm hm hκ hκM hgs => ?_⟩
          replace hκ := hκ rfl; replace hκM := hκM rfl
          have hgs := gs_args hb hgs
          obtain ⟨v, vs', hvs, g, gr⟩ := hgs.cons_inv
          obtain ⟨vx, vs'', hvs', gx, gn⟩ := gr.cons_inv
          subst hvs'
          have hn := gn.nil_inv
          subst hn
          obtain ⟨cs, hr⟩ := run_builtin (P := P) (w := w) ho hb hvs
          rw [g.val_inv, gx.val_inv] at hr
          obtain ⟨N, hN⟩ : ∃ N : Nat, n = N := ⟨n.toNat, by omega⟩
          subst hN
          have hbytes : N * f.bytes ≤ 140737488355328 := by rw [h3]; exact Int.ofNat_le.1 (by rw [Int.natCast_mul]; exact e2)
          have hrun := Lib.run_append_nil_zeros (P := P) w t t' o.type e f z kx kn hk hk' h1 h4 N (by omega) (by omega) (by omega) (by omega)
          refine Does.value (by rw [hr, htys]; simp only [builtin, Sem.run_bind, hrun, Result.andThen_ok, Sem.run_pure]; rfl) ?_
          have hge := grownCap_ge w N 0 e
          have hmg : ∀ q, (Builtin.zeroCells z.cells N).toList[q]? = if q < N * j.sz then j.zero[q % j.sz]? else none := fun q => by
            have := made_get j.zero N q
            rw [h7] at this
            rw [← this, hzl]
            unfold madeCells Builtin.zeroCells
            simp [h7]
          refine After.push (u := .slice (some ⟨w.heap.size, 0, none⟩) N (grownCap w N 0 e)) (hm.grow (fun _ h => h) hm.keys hκ hκM _ _ _ rfl rfl (.cells w.drew _ _) (by simp) (fun b hb _ => heap_alloc_old w.drew _ b hb)
            (fun k m v b g1 g2 g3 => heap_alloc_old w.drew _ b (hm.old b ⟨k, m, v, g1, g2, g3⟩).1) ?_ ?_) (.own _ _ upd_same rfl)
          · intro b hb
            have hb : b = w.heap.size := by simp [blkOf] at hb; exact hb.symm
            subst hb
            exact ⟨.inr (Nat.le_refl _), by simp, fun k m v1 g1 g2 g3 => by have := (hm.old _ ⟨k, m, v1, g1, g2, g3⟩).1; omega⟩
          · intro hs
            refine ⟨_, (Builtin.zeroCells z.cells N).toList, upd_same, ⟨by rw [Array.length_toList, size_zeroCells, hzs, h2, List.length_replicate, Int.toNat_natCast], .inr ⟨w.heap.size, grownCap w N 0 e, _, by rw [List.length_replicate, Int.toNat_natCast], Nat.zero_le _, heap_alloc_new w.drew _, by simpa using hge, grownCap_le_maxLen w _ 0 e (by unfold maxLen; omega), ?_, ?_⟩⟩, by simp; omega,
              fun u hu => ?_, fun x hx => by rw [List.eq_of_mem_replicate hx, hz]; simp [vals, h7], fun p q x s hx hs' => ?_⟩
            · simp only [Array.size_append, size_zeroCells, hzs, h2, ← Nat.add_mul]
              congr 1
              omega
            · simp only [Array.toList_append, List.length_replicate, Int.toNat_natCast]
              rw [List.take_append_of_le_length (by simp [size_zeroCells, hzs, h2])]
              exact List.take_of_length_le (by simp [size_zeroCells, hzs, h2])
            · obtain ⟨q, hq, rfl⟩ := List.mem_iff_getElem.1 hu
              have := hmg q
              rw [List.getElem?_eq_getElem hq] at this
              split at this
              · exact h8 _ (List.mem_of_getElem? this.symm)
              · cases this
            · have hxm := List.eq_of_mem_replicate (List.mem_of_getElem? hx)
              subst hxm
              have hp : p < N := by simpa using (List.getElem?_eq_some_iff.1 hx).1
              have hqj : q < j.sz := by
                have := (List.getElem?_eq_some_iff.1 hs').1
                rw [hz] at this; simpa [vals, h7] using this
              have h9 : p * j.sz + j.sz ≤ N * j.sz := by
                have := Nat.mul_le_mul_right j.sz (show p + 1 ≤ N by omega)
                rw [Nat.succ_mul] at this; exact this
              have hmod : (p * j.sz + q) % j.sz = q := by rw [Nat.mul_comm, Nat.mul_add_mod]; exact Nat.mod_eq_of_lt hqj
              rw [hmg, if_pos (by omega), hmod]
              rw [hz] at hs'
              simp only [vals, List.getElem?_map] at hs'
              cases hu : j.zero[q]? with
              | none => simp [hu] at hs'
              | some u =>
                simp [hu] at hs'
                subst hs'
                exact ⟨u, rfl, .val u⟩
        · exact h.elim
      · exact h.elim
    unfold appendV at h
    split at h
    · rename_i t t' htys
      have htys := types_two htys
      replace h := guardB_elim h; obtain ⟨hteq, h⟩ := h
      have hteq := Nat.eq_of_beq_eq_true hteq
      subst hteq
      replace h := withT_elim h; obtain ⟨i, hi, h⟩ := h
      have hk := (hT t i hi).kind
      split at h
      · rename_i e hkind
        rw [hkind] at hk
        have hk : P.underlying t = some (.slice e) := hk
        replace h := withT_elim h; obtain ⟨j, hj, h⟩ := h
        obtain ⟨f, h1, h2, h3, z, h4, h5, h6, h7, h8⟩ := (hT e j hj).inf
        have hzs : z.cells.size = f.size := by rw [h2, ← h7, ← h5]; simp
        split at h
        · obtain ⟨α, enc, ys, hra, h⟩ := h
          obtain ⟨e1, e2, e3, e4⟩ := h.ob
          refine ⟨_, _, h.go, fun o ho Keep M ρ a w hlm hm hκ hκM hgs => ?_⟩
          replace hκ := hκ rfl; replace hκM := hκM rfl
          have hgs := gs_args hb hgs
          obtain ⟨v, vs', hvs, g, gr⟩ := hgs.cons_inv
          obtain ⟨vx, vs'', hvs', gx, gn⟩ := gr.cons_inv
          subst hvs'
          have hn := gn.nil_inv
          subst hn
          obtain ⟨news, hsrc⟩ := readAs_src hra hlm hm gx e3 e4
          obtain ⟨cs, hr⟩ := run_builtin (P := P) (w := w) ho hb hvs
          rw [g.val_inv] at hr
          have hb' : (0 + ys.length) * f.bytes ≤ 140737488355328 := by rw [h3, Nat.zero_add]; omega
          obtain ⟨v', w', hrun, hown, q1, q2, q3, q4, q5, q6, q7⟩ := append_run (ty := o.type) hk h1 h4 hzs (World.ownsRow_nil w 0 e f.size) (h2 ▸ hsrc) (by unfold maxLen; omega) hb'
          refine Does.value (v := v') (w' := w') (by rw [hr, htys]; simp only [builtin, Sem.run_bind, hrun, Result.andThen_ok, Sem.run_pure]) ?_
          refine After.push (u := v') (hm.grow (fun _ h => h) hm.keys hκ hκM v' _ w' q1 q2 q3 q4 (fun b hb _ => q5 b hb (by simp [blkOf])) (fun k m v b g1 g2 g3 => q5 b (hm.old b ⟨k, m, v, g1, g2, g3⟩).1 (by simp [blkOf])) ?_ ?_) (.own _ _ upd_same q7)
          · intro b hb
            rcases q6 with q6 | ⟨q6, q8⟩
            · rw [hb] at q6; simp [blkOf] at q6
            · rw [hb] at q6; cases q6
              exact ⟨.inr (Nat.le_refl _), q8, fun k m v1 g1 g2 g3 => by have := (hm.old _ ⟨k, m, v1, g1, g2, g3⟩).1; omega⟩
          · intro hs
            refine ⟨v', news, upd_same, by rw [← h2]; simpa using hown, e2, hsrc.2.1, e4, fun p q y s' hy hs' => ?_⟩
            obtain ⟨u, hu, hd⟩ := hsrc.2.2.1 p q y s' hy hs'
            exact ⟨u, hu, hd.stp hs⟩
        · rename_i k
          split at h
          · rename_i e' α enc sz xs hlk
            replace h := guardB_elim h; obtain ⟨hee, h⟩ := h
            replace h := guardB_elim h; obtain ⟨hss, h⟩ := h
            have hee := Nat.eq_of_beq_eq_true hee
            have hss := Nat.eq_of_beq_eq_true hss
            subst hee
            obtain ⟨ys, hra, h⟩ := h
            obtain ⟨e1, e2, e3, e4⟩ := h.ob
            refine ⟨_, _, h.go, fun o ho Keep M ρ a w hlm hm hκ hκM hgs => ?_⟩
            replace hκ := hκ rfl; replace hκM := hκM rfl
            have hmem := mem_lookM (hlm k _ hlk)
            have hgs := gs_args hb hgs
            obtain ⟨v, vs', hvs, g, gr⟩ := hgs.cons_inv
            obtain ⟨vx, vs'', hvs', gx, gn⟩ := gr.cons_inv
            subst hvs'
            have hn := gn.nil_inv
            subst hn
            obtain ⟨news, hsrc⟩ := readAs_src hra hlm hm gx e3 e4
            obtain ⟨cs, hr⟩ := run_builtin (P := P) (w := w) ho hb hvs
            obtain ⟨hv, _⟩ := g.own_inv
            obtain ⟨v0, cells, hρ, hown, hnl, hone0, hesz, hcells⟩ := hm.rel k _ hmem
            rw [hv] at hρ; cases hρ
            have hb' : (xs.length + ys.length) * f.bytes ≤ 140737488355328 := by rw [h3]; exact Int.ofNat_le.1 (by rw [Int.natCast_mul, Int.natCast_add]; exact e1)
            have hsf : sz = f.size := by rw [hss, h2]
            subst hsf
            obtain ⟨v', w', hrun, hown', q1, q2, q3, q4, q5, q6, q7⟩ := append_run (ty := o.type) hk h1 h4 hzs hown (h2 ▸ hsrc) (by unfold maxLen; omega) hb'
            refine Does.value (v := v') (w' := w') (by rw [hr, htys]; simp only [builtin, Sem.run_bind, hrun, Result.andThen_ok, Sem.run_pure]) ?_
            have hgrow := hm.grow (M1 := dropM M k) (fun x hx => mem_dropM x hx) (pairwise_dropM hm.keys) hκ hκM v' (.arr e enc f.size (xs ++ ys)) w' q1 q2 q3 q4
              (fun b hb hn => q5 b hb (fun hvb => hn ⟨k, _, v, hmem, hv, hvb⟩))
              (fun k' m v1 b g1 g2 g3 => q5 b (hm.old b ⟨k', m, v1, mem_dropM _ g1, g2, g3⟩).1 (fun hvb => hm.apart k' m k _ v1 v b (mem_dropM _ g1) hmem (dropM_ne hm.keys _ g1) g2 hv g3 hvb))
              (fun b hb => by
                rcases q6 with q6 | ⟨q6, q8⟩
                · rw [hb] at q6
                  have ho : Own M ρ b := ⟨k, _, v, hmem, hv, q6.symm⟩
                  exact ⟨.inl ho, Nat.lt_of_lt_of_le (hm.old b ho).1 q4, fun k' m v1 g1 g2 g3 => hm.apart k' m k _ v1 v b (mem_dropM _ g1) hmem (dropM_ne hm.keys _ g1) g2 hv g3 q6.symm⟩
                · rw [hb] at q6; cases q6
                  exact ⟨.inr (Nat.le_refl _), q8, fun k' m v1 g1 g2 g3 => by have := (hm.old _ ⟨k', m, v1, mem_dropM _ g1, g2, g3⟩).1; omega⟩)
              (fun hs => by
                refine ⟨v', cells ++ news, upd_same, by simpa using hown', by simp; omega, fun u hu => ?_, fun x hx => ?_, fun p q x s' hx hs' => ?_⟩
                · rcases List.mem_append.1 hu with hu | hu
                  · exact hone0 u hu
                  · exact hsrc.2.1 u hu
                · rcases List.mem_append.1 hx with hx | hx
                  · exact hesz x hx
                  · rw [e4 x hx, h2]
                · have hl := hown.1
                  rw [List.getElem?_append] at hx
                  split at hx
                  · obtain ⟨u, hu, hd⟩ := hcells p q x s' hx hs'
                    refine ⟨u, ?_, hd.stp hs⟩
                    have : p * f.size + q < cells.length := (List.getElem?_eq_some_iff.1 hu).1
                    rw [List.getElem?_append_left this]; exact hu
                  · rename_i hge
                    obtain ⟨u, hu, hd⟩ := hsrc.2.2.1 (p - xs.length) q x s' hx hs'
                    refine ⟨u, ?_, hd.stp hs⟩
                    have hge : xs.length ≤ p := by omega
                    have hmul : p * f.size = xs.length * f.size + (p - xs.length) * f.size := by rw [← Nat.add_mul]; congr 1; omega
                    rw [List.getElem?_append_right (by rw [hl, hmul]; omega), hl, hmul, show xs.length * f.size + (p - xs.length) * f.size + q - xs.length * f.size = (p - xs.length) * f.size + q by omega, h2]
                    exact hu)
            exact ⟨upd ρ κ v', hgrow.1, hgrow.2, .own _ _ upd_same q7, fun k' hk' => by
              rcases hk' with hk' | hk'
              · exact upd_ne hk'
              · simp [appK] at hk'⟩
          · rename_i e' sz xs hlk
            replace h := guardB_elim h; obtain ⟨hee, h⟩ := h
            replace h := guardB_elim h; obtain ⟨hss, h⟩ := h
            have hee := Nat.eq_of_beq_eq_true hee
            have hss := Nat.eq_of_beq_eq_true hss
            subst hee
            obtain ⟨α, enc, ys, hra, h⟩ := h
            obtain ⟨e1, e2, e3, e4⟩ := h.ob
            refine ⟨_, _, h.go, fun o ho Keep M ρ a w hlm hm hκ hκM hgs => ?_⟩
            replace hκ := hκ rfl; replace hκM := hκM rfl
            have hmem := mem_lookM (hlm k _ hlk)
            have hgs := gs_args hb hgs
            obtain ⟨v, vs', hvs, g, gr⟩ := hgs.cons_inv
            obtain ⟨vx, vs'', hvs', gx, gn⟩ := gr.cons_inv
            subst hvs'
            have hn := gn.nil_inv
            subst hn
            obtain ⟨news, hsrc⟩ := readAs_src hra hlm hm gx e3 e4
            obtain ⟨cs, hr⟩ := run_builtin (P := P) (w := w) ho hb hvs
            obtain ⟨hv, _⟩ := g.own_inv
            obtain ⟨v0, cells, hρ, hown, hnl, hone0, hesz, hcells⟩ := hm.rel k _ hmem
            rw [hv] at hρ; cases hρ
            have hb' : (xs.length + ys.length) * f.bytes ≤ 140737488355328 := by rw [h3]; exact Int.ofNat_le.1 (by rw [Int.natCast_mul, Int.natCast_add]; exact e1)
            have hsf : sz = f.size := by rw [hss, h2]
            subst hsf
            obtain ⟨v', w', hrun, hown', q1, q2, q3, q4, q5, q6, q7⟩ := append_run (ty := o.type) hk h1 h4 hzs hown (h2 ▸ hsrc) (by unfold maxLen; omega) hb'
            refine Does.value (v := v') (w' := w') (by rw [hr, htys]; simp only [builtin, Sem.run_bind, hrun, Result.andThen_ok, Sem.run_pure]) ?_
            have hgrow := hm.grow (M1 := dropM M k) (fun x hx => mem_dropM x hx) (pairwise_dropM hm.keys) hκ hκM v' (.garr e f.size (xs ++ ys.map enc)) w' q1 q2 q3 q4
              (fun b hb hn => q5 b hb (fun hvb => hn ⟨k, _, v, hmem, hv, hvb⟩))
              (fun k' m v1 b g1 g2 g3 => q5 b (hm.old b ⟨k', m, v1, mem_dropM _ g1, g2, g3⟩).1 (fun hvb => hm.apart k' m k _ v1 v b (mem_dropM _ g1) hmem (dropM_ne hm.keys _ g1) g2 hv g3 hvb))
              (fun b hb => by
                rcases q6 with q6 | ⟨q6, q8⟩
                · rw [hb] at q6
                  have ho : Own M ρ b := ⟨k, _, v, hmem, hv, q6.symm⟩
                  exact ⟨.inl ho, Nat.lt_of_lt_of_le (hm.old b ho).1 q4, fun k' m v1 g1 g2 g3 => hm.apart k' m k _ v1 v b (mem_dropM _ g1) hmem (dropM_ne hm.keys _ g1) g2 hv g3 q6.symm⟩
                · rw [hb] at q6; cases q6
                  exact ⟨.inr (Nat.le_refl _), q8, fun k' m v1 g1 g2 g3 => by have := (hm.old _ ⟨k', m, v1, mem_dropM _ g1, g2, g3⟩).1; omega⟩)
              (fun hs => by
                refine ⟨v', cells ++ news, upd_same, by simpa using hown', by simp; omega, fun u hu => ?_, fun x hx => ?_, fun p q x s' hx hs' => ?_⟩
                · rcases List.mem_append.1 hu with hu | hu
                  · exact hone0 u hu
                  · exact hsrc.2.1 u hu
                · rcases List.mem_append.1 hx with hx | hx
                  · exact hesz x hx
                  · obtain ⟨y, hy, rfl⟩ := List.mem_map.1 hx
                    rw [e4 y hy, h2]
                · have hl := hown.1
                  rw [List.getElem?_append] at hx
                  split at hx
                  · obtain ⟨u, hu, hd⟩ := hcells p q x s' hx hs'
                    refine ⟨u, ?_, hd.stp hs⟩
                    have : p * f.size + q < cells.length := (List.getElem?_eq_some_iff.1 hu).1
                    rw [List.getElem?_append_left this]; exact hu
                  · rename_i hge
                    rw [List.getElem?_map] at hx
                    cases hy : ys[p - xs.length]? with
                    | none => simp [hy] at hx
                    | some y =>
                    simp [hy] at hx
                    subst hx
                    obtain ⟨u, hu, hd⟩ := hsrc.2.2.1 (p - xs.length) q y s' hy hs'
                    refine ⟨u, ?_, .d _ _ (hd.stp hs)⟩
                    have hge : xs.length ≤ p := by omega
                    have hmul : p * f.size = xs.length * f.size + (p - xs.length) * f.size := by rw [← Nat.add_mul]; congr 1; omega
                    rw [List.getElem?_append_right (by rw [hl, hmul]; omega), hl, hmul, show xs.length * f.size + (p - xs.length) * f.size + q - xs.length * f.size = (p - xs.length) * f.size + q by omega, h2]
                    exact hu)
            exact ⟨upd ρ κ v', hgrow.1, hgrow.2, .own _ _ upd_same q7, fun k' hk' => by
              rcases hk' with hk' | hk'
              · exact upd_ne hk'
              · simp [appK] at hk'⟩
          · exact h.elim
        · rename_i α enc xs
          obtain ⟨ys, hra, h⟩ := h
          obtain ⟨⟨e0, e1, e2, e3, e5, e4⟩, h⟩ := h
          refine ⟨_, _, h, fun o ho Keep M ρ a w hlm hm hκ hκM hgs => ?_⟩
          replace hκ := hκ rfl; replace hκM := hκM rfl
          have hgs := gs_args hb hgs
          obtain ⟨v, vs', hvs, g, gr⟩ := hgs.cons_inv
          obtain ⟨vx, vs'', hvs', gx, gn⟩ := gr.cons_inv
          subst hvs'
          have hn := gn.nil_inv
          subst hn
          obtain ⟨news, hsrc⟩ := readAs_src hra hlm hm gx e3 e4
          obtain ⟨cs, hr⟩ := run_builtin (P := P) (w := w) ho hb hvs
          obtain ⟨ad, hv, hd⟩ := g.full_inv
          obtain ⟨olds, hold⟩ := src_of_d hd e3 e5
          rw [hv] at hr hold
          have hb' : (xs.length + ys.length) * f.bytes ≤ 140737488355328 := by rw [h3]; exact Int.ofNat_le.1 (by rw [Int.natCast_mul, Int.natCast_add]; exact e1)
          obtain ⟨v', w', hrun, hown, q1, q2, q3, q4, q5, q6, q7⟩ := append_full (ty := o.type) hk h1 h4 hzs ad (h2 ▸ hold) (h2 ▸ hsrc) e0 (by unfold maxLen; omega) hb'
          refine Does.value (v := v') (w' := w') (by rw [hr, htys]; simp only [builtin, Sem.run_bind, hrun, Result.andThen_ok, Sem.run_pure]) ?_
          refine After.push (u := v') (hm.grow (fun _ h => h) hm.keys hκ hκM v' _ w' q1 q2 q3 q4 (fun b hb _ => q5 b hb) (fun k m v b g1 g2 g3 => q5 b (hm.old b ⟨k, m, v, g1, g2, g3⟩).1) ?_ ?_) (.own _ _ upd_same q7)
          · intro b hb
            obtain ⟨q6, q8⟩ := q6
            rw [hb] at q6; cases q6
            exact ⟨.inr (Nat.le_refl _), q8, fun k m v1 g1 g2 g3 => by have := (hm.old _ ⟨k, m, v1, g1, g2, g3⟩).1; omega⟩
          · intro hs
            refine ⟨v', olds ++ news, upd_same, by rw [← h2]; simpa using hown, by simp; omega, fun u hu => ?_, fun x hx => ?_, fun p q y s' hy hs' => ?_⟩
            · rcases List.mem_append.1 hu with hu | hu
              · exact hold.2.1 u hu
              · exact hsrc.2.1 u hu
            · rcases List.mem_append.1 hx with hx | hx
              · exact e5 x hx
              · exact e4 x hx
            · have hl := hold.1
              rw [List.getElem?_append] at hy
              split at hy
              · obtain ⟨u, hu, hd⟩ := hold.2.2.1 p q y s' hy hs'
                refine ⟨u, ?_, hd.stp hs⟩
                have : p * j.sz + q < olds.length := (List.getElem?_eq_some_iff.1 hu).1
                rw [List.getElem?_append_left this]; exact hu
              · rename_i hge
                obtain ⟨u, hu, hd⟩ := hsrc.2.2.1 (p - xs.length) q y s' hy hs'
                refine ⟨u, ?_, hd.stp hs⟩
                have hge : xs.length ≤ p := by omega
                have hmul : p * j.sz = xs.length * j.sz + (p - xs.length) * j.sz := by rw [← Nat.add_mul]; congr 1; omega
                rw [List.getElem?_append_right (by rw [hl, hmul]; omega), hl, hmul, show xs.length * j.sz + (p - xs.length) * j.sz + q - xs.length * j.sz = (p - xs.length) * j.sz + q by omega]
                exact hu
        · rcases h with h | h | h
          · obtain ⟨α, enc, ys, hra, h⟩ := h
            obtain ⟨⟨e0, e1, e2, e3, e4⟩, h⟩ := h
            refine ⟨_, _, h, fun o ho Keep M ρ a w hlm hm hκ hκM hgs => ?_⟩
            replace hκ := hκ rfl; replace hκM := hκM rfl
            have hgs := gs_args hb hgs
            obtain ⟨v, vs', hvs, g, gr⟩ := hgs.cons_inv
            obtain ⟨vx, vs'', hvs', gx, gn⟩ := gr.cons_inv
            subst hvs'
            have hn := gn.nil_inv
            subst hn
            obtain ⟨news, hsrc⟩ := readAs_src hra hlm hm gx e3 e4
            obtain ⟨cs, hr⟩ := run_builtin (P := P) (w := w) ho hb hvs
            obtain ⟨ad, hv⟩ := g.nils_inv
            rw [hv] at hr
            have hb' : ys.length * f.bytes ≤ 140737488355328 := by rw [h3]; omega
            obtain ⟨v', w', hrun, hown, q1, q2, q3, q4, q5, q6, q7⟩ := append_nils (ty := o.type) hk h1 h4 hzs ad (h2 ▸ hsrc) e0 (by unfold maxLen; omega) hb'
            refine Does.value (v := v') (w' := w') (by rw [hr, htys]; simp only [builtin, Sem.run_bind, hrun, Result.andThen_ok, Sem.run_pure]) ?_
            refine After.push (u := v') (hm.grow (fun _ h => h) hm.keys hκ hκM v' _ w' q1 q2 q3 q4 (fun b hb _ => q5 b hb) (fun k m v b g1 g2 g3 => q5 b (hm.old b ⟨k, m, v, g1, g2, g3⟩).1) ?_ ?_) (.own _ _ upd_same q7)
            · intro b hb
              obtain ⟨q6, q8⟩ := q6
              rw [hb] at q6; cases q6
              exact ⟨.inr (Nat.le_refl _), q8, fun k m v1 g1 g2 g3 => by have := (hm.old _ ⟨k, m, v1, g1, g2, g3⟩).1; omega⟩
            · intro hs
              refine ⟨v', news, upd_same, by rw [← h2]; exact hown, e2, hsrc.2.1, e4, fun p q y s' hy hs' => ?_⟩
              obtain ⟨u, hu, hd⟩ := hsrc.2.2.1 p q y s' hy hs'
              exact ⟨u, hu, hd.stp hs⟩
          · obtain ⟨α, enc, hra, e3, h⟩ := h
            refine ⟨_, _, h, fun o ho Keep M ρ a w hlm hm _ _ hgs => ?_⟩
            have hgs := gs_args hb hgs
            obtain ⟨v, vs', hvs, g, gr⟩ := hgs.cons_inv
            obtain ⟨vx, vs'', hvs', gx, gn⟩ := gr.cons_inv
            subst hvs'
            have hn := gn.nil_inv
            subst hn
            obtain ⟨news, hl, _, _, hx⟩ := readAs_src hra hlm hm gx e3 (fun x hx => by cases hx)
            obtain ⟨cs, hr⟩ := run_builtin (P := P) (w := w) ho hb hvs
            obtain ⟨ad, hv⟩ := g.nils_inv
            rw [hv] at hr
            have hrun : (Builtin.append_ #[t, t] o.type #[.slice ad 0 0, vx]).run P w = .ok (.slice ad 0 0) w := by
              rcases hx with ⟨rfl, _⟩ | ⟨a', c', rfl, _⟩
              · cases ad <;> simp [Builtin.append_, run_underlying hk, sizeOf, typeInfo, h1, Builtin.lenOf, Builtin.firstCells, storeCells]
              · cases ad <;> simp [Builtin.append_, run_underlying hk, sizeOf, typeInfo, h1, Builtin.lenOf, Builtin.firstCells, storeCells, loadCells, loadCellsFrom]
            exact Does.value (v := .slice ad 0 0) (w' := w) (by rw [hr, htys]; simp only [builtin, Sem.run_bind, hrun, Result.andThen_ok, Sem.run_pure]) (After.same hm (.d _ _ (.nils ad)))
          · exact h.elim
        · exact h.elim
      · exact h.elim
    · exact h.elim
  · exact h.elim

end Go.Gs
/- Calls by contract. -/
namespace Go.Gs

section view
variable {lm : Nat → Option Mem} {Keep : Nat → Prop} {M : List (Nat × Mem)} {ρ : Names} {w : World} {S' : Nat → Prop}

theorem D.less {S : Nat → Prop} (h : ∀ b, S' b → S b) {s : SV} {v : Value} (hd : D S w s v) : D S' w s v := hd.mono (Nat.le_refl _) fun b _ hb => ⟨fun h' => hb (h b h'), rfl⟩

/-- A part of what is one's own, seen as data. -/
theorem win_d {α : Type} {enc : α → List SV} {sz : Nat} {xs : List α} {b len cap cap' lo n : Nat} (hb : b < w.heap.size) (hS : ¬ S' b) (hesz : ∀ x ∈ xs, (enc x).length = sz)
    (hd : D S' w (.sl enc xs) (.slice (some ⟨b, 0, none⟩) len cap)) (h1 : lo + n ≤ len) (h2 : n ≤ cap') (hlen : len = xs.length) :
    D S' w (.sl enc ((xs.drop lo).take n)) (.slice (some ⟨b, lo * sz, none⟩) n cap') := by
  have hl : ((xs.drop lo).take n).length = n := by simp; omega
  have hmem : ∀ x ∈ (xs.drop lo).take n, x ∈ xs := fun x hx => List.mem_of_mem_drop (List.mem_of_mem_take hx)
  rcases hd.sl_inv with ⟨rfl, _⟩ | ⟨sz', b', o, cp, c, e, _, _, h48, _, hsz', hc, he⟩
  · have hn : n = 0 := by simp at hlen; omega
    subst hn
    have := D.sl (S := S') (w := w) enc (([] : List α).drop lo |>.take 0) sz b (lo * sz) cap' (fun _ _ => undef) hb hS (by simp) (by simp) (by simp) (fun i j hi => by simp at hi) (fun i j x s hx => by simp at hx)
    simpa using this
  · cases e
    have hix : ∀ i x, ((xs.drop lo).take n)[i]? = some x → xs[lo + i]? = some x := by
      intro i x hx
      rw [List.getElem?_take] at hx
      split at hx
      · simpa using hx
      · cases hx
    have hs : 0 < n → sz' = sz := fun hp => by
      have h1 := List.getElem?_eq_getElem (show lo < xs.length by omega)
      have h2 := List.mem_of_getElem? h1
      rw [← hesz _ h2, ← hsz' _ h2]
    have := D.sl (S := S') (w := w) enc ((xs.drop lo).take n) sz b (lo * sz) cap' (fun i j => c (lo + i) j) hb hS (by omega) (by omega) (fun x hx => hesz x (hmem x hx)) (fun i j hi hj => by
      have hsz := hs (by omega)
      have h5 := hc (lo + i) j (by omega) (by omega)
      rw [Nat.add_mul, hsz, Nat.zero_add] at h5
      exact h5) (fun i j x s hx hs' => he (lo + i) j x s (hix i x hx) hs')
    rwa [hl] at this

theorem viewC_d (hlm : ∀ k m, lm k = some m → (k, m) ∈ M) (hm : MemOK Keep M ρ w) (hsub : ∀ b, S' b → Keep b ∨ Own M ρ b) {s : SV} {v : Value}
    (hg : G (fun b => Keep b ∨ Own M ρ b) (Own M ρ) ρ w s v) (hc : flat s = true ∨ ∀ b, Own M ρ b → ¬ S' b) : D S' w (viewC lm s) v := by
  unfold viewC
  split
  · rename_i k
    have he : ∀ b, Own M ρ b → ¬ S' b := hc.resolve_left (by simp [flat])
    split
    · rename_i T α enc sz xs hlk
      exact own_d hm (hlm k _ hlk) hsub (fun v b h1 h2 => he b ⟨k, _, v, hlm k _ hlk, h1, h2⟩) hg.own_inv.1
    · exact .junk v
  · rename_i f
    obtain ⟨vs, rfl, hvs⟩ := hg.fn_inv
    rw [hvs.nil_inv]
    exact .val _
  · split
    · rename_i hf
      exact (flat_d hf hg).less hsub
    · exact .junk v

theorem viewCs_get (cs : List SV) (j : Nat) : (viewCs lm cs)[j]? = (cs[j]?).map (viewC lm) := by
  induction cs generalizing j with
  | nil => simp [viewCs]
  | cons c cs ih => cases j with
    | zero => simp [viewCs]
    | succ j => simp [viewCs, ih]
theorem viewCs_len (cs : List SV) : (viewCs lm cs).length = cs.length := by
  induction cs with
  | nil => rfl
  | cons c cs ih => simp [viewCs, ih]

theorem view1_g (hlm : ∀ k m, lm k = some m → (k, m) ∈ M) (hm : MemOK Keep M ρ w) (hsub : ∀ b, S' b → Keep b ∨ Own M ρ b) {s : SV} {v : Value}
    (hg : G (fun b => Keep b ∨ Own M ρ b) (Own M ρ) ρ w s v) (hc : clean1 lm s = true ∨ ∀ b, Own M ρ b → ¬ S' b) {Pm' : Nat → Prop} (hP : ∀ b, ¬ Own M ρ b → ¬ Pm' b)
    (hP2 : ∀ k off b, s = .loc k off → ρ k = some (.pointer (some ⟨b, 0, none⟩)) → ¬ Pm' b) {ρ' : Names} : G S' Pm' ρ' w (view1 lm s) v := by
  unfold view1
  split
  · rename_i k off
    split
    · rename_i T cs hlk
      obtain ⟨b, vs, hρ, hheap, hlen, hone, hcells⟩ := hm.rel k _ (hlm k _ hlk)
      obtain ⟨b', hρ', rfl⟩ := hg.loc_inv
      rw [hρ] at hρ'; cases hρ'
      refine .ptr _ b off (fun j => (vs[off + j]?).getD undef) (hm.old b ⟨k, _, _, hlm k _ hlk, hρ, rfl⟩).1 (hP2 k off b rfl hρ) (fun j hj => ?_) (fun j s hs => ?_)
      · have hlt : off + j < vs.length := by simp [viewCs_len] at hj; omega
        rw [List.getElem?_eq_getElem hlt]
        exact ⟨by rw [cell_row hheap, List.getElem?_eq_getElem hlt]; rfl, hone _ (List.getElem_mem hlt)⟩
      · simp only [List.getElem?_drop, viewCs_get] at hs
        cases hcs : cs[off + j]? with
        | none => simp [hcs] at hs
        | some c =>
          simp [hcs] at hs
          subst hs
          have hlt : off + j < vs.length := by rw [hlen]; exact (List.getElem?_eq_some_iff.1 hcs).1
          rw [List.getElem?_eq_getElem hlt]
          refine viewC_d hlm hm hsub (hcells _ c _ hcs (List.getElem?_eq_getElem hlt)) (hc.imp (fun h => ?_) id)
          simp only [clean1, hlk] at h
          exact flats_mem h _ c hcs
    · exact .d _ _ (.junk v)
  · rename_i k
    have he : ∀ b, Own M ρ b → ¬ S' b := hc.resolve_left (by simp [clean1, flat])
    split
    · rename_i T α enc sz xs hlk
      exact .d _ _ (own_d hm (hlm k _ hlk) hsub (fun v b h1 h2 => he b ⟨k, _, v, hlm k _ hlk, h1, h2⟩) hg.own_inv.1)
    · exact .d _ _ (.junk v)
  · rename_i k sz lo n
    have he : ∀ b, Own M ρ b → ¬ S' b := hc.resolve_left (by simp [clean1, flat])
    split
    · rename_i T α enc sz' xs hlk
      split
      · rename_i hb
        have := Nat.eq_of_beq_eq_true hb
        subst this
        obtain ⟨b, len, cap, cap', hρ, rfl, h1, h2⟩ := hg.win_inv
        have hd := own_d hm (hlm k _ hlk) hsub (fun v b h1 h2 => he b ⟨k, _, v, hlm k _ hlk, h1, h2⟩) hρ
        have ho : Own M ρ b := ⟨k, _, _, hlm k _ hlk, hρ, rfl⟩
        obtain ⟨v', cells, hρ', hown, hlen, hone, hesz, hcells⟩ := hm.rel k _ (hlm k _ hlk)
        rw [hρ] at hρ'; cases hρ'
        refine .d _ _ (win_d (hm.old b ho).1 (he b ho) hesz hd h1 h2 ?_)
        rcases hown.2 with ⟨e, _⟩ | ⟨g, cap, cur, e, _⟩ <;> cases e
        rfl
      · exact .d _ _ (.junk _)
    · exact .d _ _ (.junk _)
  · rename_i cs
    obtain ⟨vs, rfl, hvs⟩ := hg.agg_inv
    refine .agg _ vs (by rw [viewCs_len]; exact hvs.1) fun j s v h1 h2 => ?_
    rw [viewCs_get] at h1
    cases hcs : cs[j]? with
    | none => simp [hcs] at h1
    | some c =>
      simp [hcs] at h1
      subst h1
      exact .d _ _ (viewC_d hlm hm hsub (hvs.2 j c v hcs h2) (hc.imp (fun h => flats_mem h j c hcs) id))
  · rename_i cs
    obtain ⟨b, o, c, rfl, hb, hnp, h1, h2⟩ := hg.ptr_inv
    exact .ptr cs b o c hb (hP b hnp) h1 fun j s hs => (h2 j s hs).less hsub
  · rename_i f
    obtain ⟨vs, rfl, hvs⟩ := hg.fn_inv
    rw [hvs.nil_inv]
    exact .fn f [] [] rfl fun j s v h => by simp at h
  · split
    · rename_i hf
      exact .d _ _ ((flat_d hf hg).less hsub)
    · exact .d _ _ (.junk v)

theorem views1_g (hlm : ∀ k m, lm k = some m → (k, m) ∈ M) (hm : MemOK Keep M ρ w) (hsub : ∀ b, S' b → Keep b ∨ Own M ρ b) {Pm' : Nat → Prop} (hP : ∀ b, ¬ Own M ρ b → ¬ Pm' b) {ρ' : Names} : ∀ {cs : List SV} {vs : List Value},
    (∀ k off b, .loc k off ∈ cs → ρ k = some (.pointer (some ⟨b, 0, none⟩)) → ¬ Pm' b) → Gs (fun b => Keep b ∨ Own M ρ b) (Own M ρ) ρ w cs vs → (cleans1 lm cs = true ∨ ∀ b, Own M ρ b → ¬ S' b) → Gs S' Pm' ρ' w (views1 lm cs) vs
  | [], vs, _, hg, _ => by rw [hg.nil_inv]; exact .nil
  | c :: cs, vs, hP2, hg, hc => by
    obtain ⟨v, vs', rfl, h1, h2⟩ := hg.cons_inv
    have key : (clean1 lm c = true ∨ ∀ b, Own M ρ b → ¬ S' b) ∧ (cleans1 lm cs = true ∨ ∀ b, Own M ρ b → ¬ S' b) := by
      rcases hc with hc | hc
      · simp only [cleans1] at hc
        split at hc
        · exact ⟨.inl ‹_›, .inl hc⟩
        · cases hc
      · exact ⟨.inr hc, .inr hc⟩
    exact .cons (view1_g hlm hm hsub h1 key.1 hP fun k off b e => hP2 k off b (e ▸ .head _)) (views1_g hlm hm hsub hP (fun k off b hk => hP2 k off b (.tail _ hk)) h2 key.2)

theorem view_g (hlm : ∀ k m, lm k = some m → (k, m) ∈ M) (hm : MemOK Keep M ρ w) (hsub : ∀ b, S' b → Keep b ∨ Own M ρ b) {s : SV} {v : Value}
    (hg : G (fun b => Keep b ∨ Own M ρ b) (Own M ρ) ρ w s v) (hc : clean lm [s] = true ∨ ∀ b, Own M ρ b → ¬ S' b) {Pm' : Nat → Prop} (hP : ∀ b, ¬ Own M ρ b → ¬ Pm' b)
    (hP2 : ∀ k off b, (s = .loc k off ∨ ∃ f cs, s = .fn f cs ∧ .loc k off ∈ cs) → ρ k = some (.pointer (some ⟨b, 0, none⟩)) → ¬ Pm' b) {ρ' : Names} : G S' Pm' ρ' w (view lm s) v := by
  unfold view
  split
  · rename_i f cs
    obtain ⟨vs, rfl, hvs⟩ := hg.fn_inv
    have h := views1_g (S' := S') (Pm' := Pm') (ρ' := ρ') hlm hm hsub hP (fun k off b hk => hP2 k off b (.inr ⟨_, _, rfl, hk⟩)) hvs (hc.imp (fun h => by
      simp only [clean] at h
      split at h
      · assumption
      · cases h) id)
    exact .fn f _ vs h.1 h.2
  · rename_i hnf
    refine view1_g hlm hm hsub hg (hc.imp (fun h => ?_) id) hP (fun k off b e => hP2 k off b (.inl e))
    unfold clean at h
    split at h
    · rename_i heq; cases heq
    · rename_i heq; cases heq; exact absurd rfl (hnf _ _)
    · rename_i heq
      cases heq
      split at h
      · assumption
      · cases h

theorem clean_cons {s : SV} {r : List SV} (h : clean lm (s :: r) = true) : clean lm [s] = true ∧ clean lm r = true := by
  cases s <;> simp only [clean] at h ⊢ <;> (split at h <;> simp_all)

theorem views_g (hlm : ∀ k m, lm k = some m → (k, m) ∈ M) (hm : MemOK Keep M ρ w) (hsub : ∀ b, S' b → Keep b ∨ Own M ρ b) {Pm' : Nat → Prop} (hP : ∀ b, ¬ Pm' b) {ρ' : Names} : ∀ {cs : List SV} {vs : List Value},
    Gs (fun b => Keep b ∨ Own M ρ b) (Own M ρ) ρ w cs vs → (clean lm cs = true ∨ ∀ b, Own M ρ b → ¬ S' b) → Gs S' Pm' ρ' w (views lm cs) vs
  | [], vs, hg, _ => by rw [hg.nil_inv]; exact .nil
  | c :: cs, vs, hg, hc => by
    obtain ⟨v, vs', rfl, h1, h2⟩ := hg.cons_inv
    have key : (clean lm [c] = true ∨ ∀ b, Own M ρ b → ¬ S' b) ∧ (clean lm cs = true ∨ ∀ b, Own M ρ b → ¬ S' b) := by
      rcases hc with hc | hc
      · exact ⟨.inl (clean_cons hc).1, .inl (clean_cons hc).2⟩
      · exact ⟨.inr hc, .inr hc⟩
    exact .cons (view_g hlm hm hsub h1 key.1 (fun b _ => hP b) (fun _ _ b _ _ => hP b)) (views_g hlm hm hsub hP h2 key.2)
end view

theorem scalar_mem {cs : List SV} (h : scalar.scalars cs = true) : ∀ (j : Nat) (s : SV), cs[j]? = some s → scalar s = true := by
  induction cs with
  | nil => intro j s h1; simp at h1
  | cons c cs ih =>
    intro j s h1
    simp only [scalar.scalars] at h
    split at h
    · rename_i hc
      cases j with
      | zero => simp at h1; subst h1; exact hc
      | succ j => exact ih h j s (by simpa using h1)
    · cases h

theorem scalar_any {S S' Pm : Nat → Prop} {ρ : Names} {w w' : World} {s : SV} (hs : scalar s = true) {v : Value} (hg : G S Pm ρ w s v) : D S' w' s v := by
  have key : ∀ {s : SV} {v : Value}, D S w s v → scalar s = true → D S' w' s v := by
    intro s v hd
    induction hd with
    | val v => exact fun _ => .val v
    | pr p i => exact fun _ => .pr p i
    | nils a => exact fun _ => .nils a
    | anyb b => exact fun _ => .anyb b
    | agg cs vs hl h ih => exact fun hs => .agg cs vs hl fun j s v h1 h2 => ih j s v h1 h2 (scalar_mem hs j s h1)
    | _ => intro hs; simp [scalar] at hs
  induction hg with
  | d _ _ h => exact key h hs
  | agg cs vs hl h ih => exact .agg cs vs hl fun j s v h1 h2 => ih j s v h1 h2 (scalar_mem hs j s h1)
  | _ => simp [scalar] at hs

/-- A result that is plain data means the same to the caller. -/
theorem flatR_g {S S' Pm Pm' : Nat → Prop} {ρ ρ' : Names} {w : World} (hsub : ∀ b, S' b → S b) {r : SV} (hr : flatR r = true) {v : Value} (hg : G S Pm ρ w r v) : G S' Pm' ρ' w r v := by
  unfold flatR at hr
  split at hr
  · obtain ⟨vs, rfl, hvs⟩ := hg.tup_inv
    exact .tup _ vs hvs.1 fun j s v h1 h2 => .d _ _ ((flat_d (flats_mem hr j s h1) (hvs.2 j s v h1 h2)).less hsub)
  · exact .d _ _ ((flat_d hr hg).less hsub)
theorem scalarR_g {S S' Pm Pm' : Nat → Prop} {ρ ρ' : Names} {w w' : World} {r : SV} (hr : scalarR r = true) {v : Value} (hg : G S Pm ρ w r v) : G S' Pm' ρ' w' r v := by
  unfold scalarR at hr
  split at hr
  · obtain ⟨vs, rfl, hvs⟩ := hg.tup_inv
    exact .tup _ vs hvs.1 fun j s v h1 h2 => .d _ _ (scalar_any (scalar_mem hr j s h1) (hvs.2 j s v h1 h2))
  · exact .d _ _ (scalar_any hr hg)

theorem call_run {P : Program} {o : Oper} {c : Call} {fx : Operand} (ho : o.op = .call c) (hc : c.callee = .value fx) {a : Act} {w : World} {f : FuncId} {fs caps vs : List Value}
    (hf : a.eval fx = .func (.func f) fs.toArray caps.toArray) (hv : c.args.toList.map a.eval = vs) (hcall : Callable P f) : (execOp a.eval o).run P w = .ok (.enter f (fs ++ (vs ++ caps)).toArray) w := by
  obtain ⟨fn, h1, h2, h3⟩ := hcall
  have h : c.args.map a.eval = vs.toArray := by apply Array.ext'; simp [hv]
  simp only [execOp, ho, resolve, hc, hf, h, Deferred.ofValue, invoke, callFunc, Sem.run_bind, Sem.run_pure, Result.andThen_ok, run_program, h1, h2, h3, Bool.false_eq_true, if_false]
  simp

theorem own_nil {ρ : Names} {b : Nat} : ¬ Own [] ρ b := fun ⟨_, _, _, h, _⟩ => by cases h

theorem memOK_nil {S : Nat → Prop} {ρ : Names} {w : World} (h : ∀ b, S b → b < w.heap.size) : MemOK S [] ρ w :=
  ⟨fun _ _ h => (by cases h), List.Pairwise.nil, fun _ _ _ _ _ _ _ h => (by cases h), fun _ h => absurd h own_nil, h⟩

end Go.Gs
/- Maps of one's own, whose keys are integers. -/
namespace Go.Gs

theorem SameOut.block (w : World) {r : Nat} {ents : Array MapEntry} {clock : Nat} (h : w.heap[r]? = some (.map ents clock)) (es' : Array MapEntry) (c' : Nat) :
    SameOut w { w with heap := w.heap.setIfInBounds r (.map es' c') } := ⟨rfl, fun a => by
  unfold World.frozen?
  show (match (w.heap.setIfInBounds r (.map es' c'))[a.block]? with
    | some (.cells _ _ (lo, hi)) => decide (lo ≤ a.off) && decide (a.off < hi)
    | _ => false) = _
  by_cases e : r = a.block
  · subst e
    have hlt : a.block < w.heap.size := (Array.getElem?_eq_some_iff.1 h).1
    have h2 : (w.heap.setIfInBounds a.block (Obj.map es' c'))[a.block]? = some (.map es' c') := by
      rw [Array.getElem?_setIfInBounds]; simp [hlt]
    rw [h2, h]
  · rw [Array.getElem?_setIfInBounds, if_neg e]
    cases w.heap[a.block]? with
    | none => rfl
    | some o => cases o <;> rfl⟩
theorem SameOut.map (w : World) : SameOut w (w.alloc (.map #[] 0)) := ⟨rfl, fun a => by
  unfold World.frozen?
  by_cases e : a.block < w.heap.size
  · rw [heap_alloc_old w _ a.block e]
  · have h1 : w.heap[a.block]? = none := Array.getElem?_eq_none (by omega)
    by_cases e2 : a.block = w.heap.size
    · rw [e2, heap_alloc_new]; rw [e2] at h1; rw [h1]
    · have h2 : (w.alloc (.map #[] 0)).heap[a.block]? = none := Array.getElem?_eq_none (by simp; omega)
      rw [h1, h2]⟩

theorem MemOK.writeMap {Keep : Nat → Prop} {M : List (Nat × Mem)} {ρ : Names} {w : World} (hm : MemOK Keep M ρ w) {k : Nat} {m : Mem} (m' : Mem) (hk : (k, m) ∈ M) {r : Nat}
    (hv : ρ k = some (.map (some r))) {ents : Array MapEntry} {clock : Nat} (hh : w.heap[r]? = some (.map ents clock)) (es' : Array MapEntry) (c' : Nat)
    (hrel : Stp (Own M ρ) (Own (setM M k m') ρ) ρ ρ w { w with heap := w.heap.setIfInBounds r (.map es' c') } →
      MRel (fun b => Keep b ∨ Own (setM M k m') ρ b) (Own (setM M k m') ρ) ρ { w with heap := w.heap.setIfInBounds r (.map es' c') } k m') :
    Stp (Own M ρ) (Own (setM M k m') ρ) ρ ρ w { w with heap := w.heap.setIfInBounds r (.map es' c') } ∧ MemOK Keep (setM M k m') ρ { w with heap := w.heap.setIfInBounds r (.map es' c') } := by
  have hkeys : (setM M k m').map (·.1) = M.map (·.1) := keys_setM
  have hb : blkOf (.map (some r)) = some r := rfl
  have hother : ∀ b', b' ≠ r → (w.heap.setIfInBounds r (Obj.map es' c'))[b']? = w.heap[b']? := fun b' hne => by
    rw [Array.getElem?_setIfInBounds]; simp [Ne.symm hne]
  have hs : Stp (Own M ρ) (Own (setM M k m') ρ) ρ ρ w { w with heap := w.heap.setIfInBounds r (.map es' c') } :=
    ⟨rfl, rfl, .block w hh _ _, by simp, fun b' _ hn => hother b' (fun e => hn ⟨k, m, _, hk, hv, e ▸ hb⟩), fun b' hb' => .inl (own_keys hkeys.symm hb'), fun _ _ h => h⟩
  refine ⟨hs, MemOK.next k hm hs (pairwise_keys hkeys hm.keys) ?_ ?_ ?_⟩
  · intro k' m1 h1 hne
    rcases mem_setM hm.keys _ h1 with ⟨_, h2⟩ | h2
    · refine ⟨h2, rfl, fun v' b' hv' hb' => hother b' (fun e => ?_)⟩
      subst e
      exact hm.apart k' m1 k m v' _ b' h2 hk hne hv' hv hb' hb
    · cases h2; exact absurd rfl hne
  · intro m1 h1
    rcases mem_setM hm.keys _ h1 with ⟨h2, _⟩ | h2
    · exact absurd rfl h2
    · cases h2; exact hrel hs
  · intro m1 v' b' _ hv' hb'
    rw [hv] at hv'; cases hv'
    rw [hb] at hb'; cases hb'
    refine ⟨fun k' m2 v2 h2 hne hv2 hb2 => ?_, by simpa using (hm.old r ⟨k, m, _, hk, hv, hb⟩).1, (hm.old r ⟨k, m, _, hk, hv, hb⟩).2⟩
    rcases mem_setM hm.keys _ h2 with ⟨_, h3⟩ | h3
    · exact hm.apart k' m2 k m v2 _ r h3 hk hne hv2 hv hb2 hb
    · cases h3; exact absurd rfl hne

theorem findK_elim : ∀ {es : List (Int × SV)} {n : Int} {K1 : SV → Prop} {K0 : Prop}, findK es n K1 K0 →
    (∃ (i : Nat) (s : SV), es[i]? = some (n, s) ∧ (∀ (j : Nat) (m : Int) (s' : SV), j < i → es[j]? = some (m, s') → n ≠ m) ∧ K1 s) ∨ ((∀ (j : Nat) (m : Int) (s' : SV), es[j]? = some (m, s') → n ≠ m) ∧ K0)
  | [], n, K1, K0, h => .inr ⟨fun j m s' h => by simp at h, h⟩
  | (k, s) :: r, n, K1, K0, h => by
    have h : Br (n = k → K1 s) (¬ n = k → findK r n K1 K0) := h
    by_cases e : n = k
    · exact .inl ⟨0, s, by rw [e]; rfl, fun j _ _ hj => by omega, h.yes e⟩
    · rcases findK_elim (h.no e) with ⟨i, s1, h1, h2, h3⟩ | ⟨h1, h2⟩
      · refine .inl ⟨i + 1, s1, h1, fun j m s' hj hs => ?_, h3⟩
        cases j with
        | zero => simp at hs; rw [← hs.1]; exact e
        | succ j => exact h2 j m s' (by omega) hs
      · refine .inr ⟨fun j m s' hs => ?_, h2⟩
        cases j with
        | zero => simp at hs; rw [← hs.1]; exact e
        | succ j => exact h1 j m s' hs
theorem updK_elim : ∀ {es : List (Int × SV)} {n : Int} {s : SV} {K : List (Int × SV) → Prop}, updK es n s K →
    (∃ (i : Nat) (s0 : SV), es[i]? = some (n, s0) ∧ (∀ (j : Nat) (m : Int) (s' : SV), j < i → es[j]? = some (m, s') → n ≠ m) ∧ K (es.set i (n, s))) ∨ ((∀ (j : Nat) (m : Int) (s' : SV), es[j]? = some (m, s') → n ≠ m) ∧ K (es ++ [(n, s)]))
  | [], n, s, K, h => .inr ⟨fun j m s' h => by simp at h, h⟩
  | (k, s0) :: r, n, s, K, h => by
    have h : Br (n = k → K ((n, s) :: r)) (¬ n = k → updK r n s fun r' => K ((k, s0) :: r')) := h
    by_cases e : n = k
    · exact .inl ⟨0, s0, by rw [e]; rfl, fun j _ _ hj => by omega, h.yes e⟩
    · rcases updK_elim (h.no e) with ⟨i, s1, h1, h2, h3⟩ | ⟨h1, h2⟩
      · refine .inl ⟨i + 1, s1, h1, fun j m s' hj hs => ?_, h3⟩
        cases j with
        | zero => simp at hs; rw [← hs.1]; exact e
        | succ j => exact h2 j m s' (by omega) hs
      · refine .inr ⟨fun j m s' hs => ?_, h2⟩
        cases j with
        | zero => simp at hs; rw [← hs.1]; exact e
        | succ j => exact h1 j m s' hs

theorem findNow_hit {n : Int} : ∀ {ents : List MapEntry} {i : Nat} {e : MapEntry} (c : Nat), ents[i]? = some e → e.key = .int .i64 n → (∀ (j : Nat) e', j < i → ents[j]? = some e' → ∃ m, e'.key = .int .i64 m ∧ n ≠ m) →
    Instr.findNow (.int .i64) (.int .i64 n) ents c = some (some (c + i, e.val))
  | [], i, e, c, h, _, _ => by simp at h
  | x :: r, i, e, c, h, hk, ho => by
    cases i with
    | zero =>
      simp at h; subst h
      unfold Instr.findNow
      simp [Instr.sameNow, hk]
    | succ i =>
      obtain ⟨m, h1, h2⟩ := ho 0 x (by omega) rfl
      unfold Instr.findNow
      rw [h1]
      simp only [Instr.sameNow, if_true]
      rw [show (n == m) = false by simpa using h2]
      simp only
      rw [findNow_hit (c + 1) (i := i) h hk (fun j e' hj he => ho (j + 1) e' (by omega) he)]
      congr 2; congr 1; omega
theorem findNow_miss {n : Int} : ∀ {ents : List MapEntry} (c : Nat), (∀ (j : Nat) e', ents[j]? = some e' → ∃ m, e'.key = .int .i64 m ∧ n ≠ m) → Instr.findNow (.int .i64) (.int .i64 n) ents c = some none
  | [], c, _ => rfl
  | x :: r, c, ho => by
    obtain ⟨m, h1, h2⟩ := ho 0 x rfl
    unfold Instr.findNow
    rw [h1]
    simp only [Instr.sameNow, if_true]
    rw [show (n == m) = false by simpa using h2]
    exact findNow_miss (c + 1) fun j e' he => ho (j + 1) e' he

theorem run_checkKey {P : Program} {w : World} {kt : TypeId} {k : IntKind} (h : P.underlying kt = some (.int k)) (b : Bool) (v : Value) : (Instr.checkKey b 10000 kt v).run P w = .ok () w := by
  rw [Instr.checkKey]
  simp [run_underlying h]
theorem sameBits_int (n : Int) : Instr.sameBits 10000 (.int .i64 n) (.int .i64 n) = true := by
  unfold Instr.sameBits; simp

theorem makeMap_sound {P : Program} {Γ : List (TypeId × TI)} (hT : TOK P Γ) {t : TypeId} {x : Option Operand} {svs : List SV} {lm : Nat → Option Mem} {κ : Nat} {K : SV → MD → Prop}
    (h : makeMapV Γ t svs κ K) : ∃ r md, K r md ∧ OpOK P (.makeMap t x) svs lm κ r md := by
  unfold makeMapV at h
  replace h := withT_elim h; obtain ⟨i, hi, h⟩ := h
  have hk := (hT t i hi).kind
  split at h
  · rename_i kt et hkind
    rw [hkind] at hk
    have hk : P.underlying t = some (.map kt et) := hk
    have fin : ∀ (o : Oper) (Keep : Nat → Prop) (M : List (Nat × Mem)) (ρ : Names) (a : Act) (w : World), MemOK Keep M ρ w → ρ κ = none → (∀ m, (κ, m) ∉ M) →
        (execOp a.eval o).run P w = .ok (.value (.map (some w.heap.size))) (w.alloc (.map #[] 0)) → Does P o a w (After Keep M ρ w κ (.own κ) (.push (.map []))) := fun o Keep M ρ a w hm hκ hκM hrun =>
      Does.value hrun (After.push (u := .map (some w.heap.size)) (alloc_next hm hκ hκM _ _ _ (.map w) rfl fun hs =>
        ⟨w.heap.size, #[], 0, upd_same, heap_alloc_new w _, rfl, fun i n s hi => by simp at hi⟩) (.own _ _ upd_same rfl))
    split at h
    · refine ⟨_, _, h, fun o ho Keep M ρ a w _ hm hκ hκM hgs => fin o Keep M ρ a w hm (hκ rfl) (hκM rfl) ?_⟩
      have hx : x = none := by
        cases x with
        | none => rfl
        | some y => have := hgs.1; simp [operandsL, optL] at this
      subst hx
      simp [execOp, ho, Instr.makeMap]
    · rename_i kk nn rest
      refine ⟨_, _, h, fun o ho Keep M ρ a w _ hm hκ hκM hgs => fin o Keep M ρ a w hm (hκ rfl) (hκM rfl) ?_⟩
      cases x with
      | none => have := hgs.1; simp [operandsL, optL] at this
      | some y =>
        have hy : a.eval y = .int kk nn := (Gs.head hgs).val_inv
        simp [execOp, ho, Instr.makeMap, hy, run_underlying hk, asInt, asIntOf]
    · exact h.elim
  · exact h.elim

theorem mapUpdate_sound {P : Program} {Γ : List (TypeId × TI)} (hT : TOK P Γ) {t : TypeId} {x y z : Operand} {m k s : SV} {lm : Nat → Option Mem} {κ : Nat} {K : SV → MD → Prop}
    (h : mapUpdateV Γ t m k s lm K) : ∃ r md, K r md ∧ OpOK P (.mapUpdate t x y z) [m, k, s] lm κ r md := by
  unfold mapUpdateV at h
  replace h := withT_elim h; obtain ⟨i, hi, h⟩ := h
  have hk := (hT t i hi).kind
  split at h
  · rename_i kt et hkind
    rw [hkind] at hk
    have hk : P.underlying t = some (.map kt et) := hk
    replace h := withT_elim h; obtain ⟨j, hj, h⟩ := h
    have hkk := (hT kt j hj).kind
    split at h
    · rename_i c n hjk
      rw [hjk] at hkk
      have hkk : P.underlying kt = some (.int .i64) := hkk
      split at h
      · rename_i es hlk
        replace h := guardB_elim h; obtain ⟨hf, h⟩ := h
        rcases updK_elim h with ⟨i, s0, h1, h2, h3⟩ | ⟨h1, h3⟩
        · refine ⟨_, _, h3, fun o ho Keep M ρ a w hlm hm _ _ hgs => ?_⟩
          have hmem := mem_lookM (hlm c _ hlk)
          obtain ⟨r, ents, clock, g1, g2, g3, g4⟩ := hm.rel c _ hmem
          obtain ⟨v0, hρ, hx⟩ : ∃ v0, ρ c = some v0 ∧ a.eval x = v0 := ⟨_, (Gs.head hgs).own_inv.1, rfl⟩
          rw [g1] at hρ; cases hρ
          have hy : a.eval y = .int .i64 n := (Gs.head (Gs.tail hgs)).val_inv
          have hz := flat_d hf (Gs.head (Gs.tail (Gs.tail hgs)))
          obtain ⟨e, he, hek, hd⟩ := g4 i n s0 h1
          have hhit := findNow_hit (n := n) 0 (ents := ents.toList) (i := i) (e := e) (by simpa using he) hek (fun j e' hj he' => by
            have hjl : j < es.length := by have := (List.getElem?_eq_some_iff.1 h1).1; omega
            obtain ⟨⟨m, s'⟩, hms⟩ : ∃ p, es[j]? = some p := ⟨_, List.getElem?_eq_getElem hjl⟩
            obtain ⟨e2, q1, q2, _⟩ := g4 j m s' hms
            have he' : ents[j]? = some e' := by simpa using he'
            rw [q1] at he'; cases he'
            exact ⟨m, q2, h2 j m s' hj hms⟩)
          rw [Nat.zero_add] at hhit
          refine Does.skip (w' := { w with heap := w.heap.setIfInBounds r (.map (ents.modify i fun e => { e with key := .int .i64 n, val := a.eval z }) clock) }) ?_ ?_
          · simp [execOp, ho, hx, hy, Instr.mapUpdate, run_underlying hk, run_underlying hkk, MapKept.run_getObj_map g2, run_checkKey hkk, Instr.findKey, hhit, Instr.keyThatStays, he, hek, sameBits_int, MapKept.run_setObj_map _ g2]
          · refine After.set (hm.writeMap _ hmem g1 g2 _ _ fun hs => ⟨r, ents.modify i fun e => { e with key := .int .i64 n, val := a.eval z }, clock, g1, by rw [Array.getElem?_setIfInBounds]; simp [(Array.getElem?_eq_some_iff.1 g2).1], by simp [g3], fun j m s' hjm => ?_⟩) (.d _ _ (.val _))
            rw [List.getElem?_set] at hjm
            by_cases eij : i = j
            · subst eij
              rw [if_pos rfl] at hjm
              split at hjm
              · cases hjm
                exact ⟨{ e with key := .int .i64 n, val := a.eval z }, by rw [Array.getElem?_modify, if_pos rfl, he]; rfl, rfl, hz.stp hs⟩
              · cases hjm
            · rw [if_neg eij] at hjm
              obtain ⟨e2, q1, q2, q3⟩ := g4 j m s' hjm
              exact ⟨e2, by rw [Array.getElem?_modify, if_neg eij, q1], q2, q3.stp hs⟩
        · refine ⟨_, _, h3, fun o ho Keep M ρ a w hlm hm _ _ hgs => ?_⟩
          have hmem := mem_lookM (hlm c _ hlk)
          obtain ⟨r, ents, clock, g1, g2, g3, g4⟩ := hm.rel c _ hmem
          obtain ⟨v0, hρ, hx⟩ : ∃ v0, ρ c = some v0 ∧ a.eval x = v0 := ⟨_, (Gs.head hgs).own_inv.1, rfl⟩
          rw [g1] at hρ; cases hρ
          have hy : a.eval y = .int .i64 n := (Gs.head (Gs.tail hgs)).val_inv
          have hz := flat_d hf (Gs.head (Gs.tail (Gs.tail hgs)))
          have hmiss := findNow_miss (n := n) 0 (ents := ents.toList) (fun j e' he' => by
            have he' : ents[j]? = some e' := by simpa using he'
            have hjl : j < es.length := by have := (Array.getElem?_eq_some_iff.1 he').1; omega
            obtain ⟨⟨m, s'⟩, hms⟩ : ∃ p, es[j]? = some p := ⟨_, List.getElem?_eq_getElem hjl⟩
            obtain ⟨e2, q1, q2, _⟩ := g4 j m s' hms
            rw [q1] at he'; cases he'
            exact ⟨m, q2, h1 j m s' hms⟩)
          refine Does.skip (w' := { w with heap := w.heap.setIfInBounds r (.map (ents.push { key := .int .i64 n, val := a.eval z, born := clock }) (clock + 1)) }) ?_ ?_
          · simp [execOp, ho, hx, hy, Instr.mapUpdate, run_underlying hk, run_underlying hkk, MapKept.run_getObj_map g2, run_checkKey hkk, Instr.findKey, hmiss, MapKept.run_setObj_map _ g2]
          · refine After.set (hm.writeMap _ hmem g1 g2 _ _ fun hs => ⟨r, ents.push { key := .int .i64 n, val := a.eval z, born := clock }, clock + 1, g1, by rw [Array.getElem?_setIfInBounds]; simp [(Array.getElem?_eq_some_iff.1 g2).1], by simp [g3], fun j m s' hjm => ?_⟩) (.d _ _ (.val _))
            by_cases hj : j < es.length
            · rw [List.getElem?_append_left hj] at hjm
              obtain ⟨e2, q1, q2, q3⟩ := g4 j m s' hjm
              exact ⟨e2, by rw [Array.getElem?_push, if_neg (by omega), q1], q2, q3.stp hs⟩
            · rw [List.getElem?_append_right (by omega)] at hjm
              have hj0 : j = es.length := by
                have := (List.getElem?_eq_some_iff.1 hjm).1
                simp at this; omega
              subst hj0
              simp at hjm
              obtain ⟨rfl, rfl⟩ := hjm
              exact ⟨_, by rw [Array.getElem?_push, if_pos g3.symm], rfl, hz.stp hs⟩
      · exact h.elim
    · exact h.elim
  · exact h.elim

theorem insert_sound {P : Program} {Γ : List (TypeId × TI)} (hT : TOK P Γ) {t : TypeId} {x y z : Operand} {m k s : SV} {lm : Nat → Option Mem} {κ : Nat} {K : SV → MD → Prop}
    (h : mapUpdateV Γ t m k s lm K) : ∃ r md, K r md ∧ OpOK P (.insert t x y z) [m, k, s] lm κ r md := by
  unfold mapUpdateV at h
  replace h := withT_elim h; obtain ⟨i, hi, h⟩ := h
  have hk := (hT t i hi).kind
  split at h
  · rename_i kt et hkind
    rw [hkind] at hk
    have hk : P.underlying t = some (.map kt et) := hk
    replace h := withT_elim h; obtain ⟨j, hj, h⟩ := h
    have hkk := (hT kt j hj).kind
    split at h
    · rename_i c n hjk
      rw [hjk] at hkk
      have hkk : P.underlying kt = some (.int .i64) := hkk
      split at h
      · rename_i es hlk
        replace h := guardB_elim h; obtain ⟨hf, h⟩ := h
        rcases updK_elim h with ⟨i, s0, h1, h2, h3⟩ | ⟨h1, h3⟩
        · refine ⟨_, _, h3, fun o ho Keep M ρ a w hlm hm _ _ hgs => ?_⟩
          have hmem := mem_lookM (hlm c _ hlk)
          obtain ⟨r, ents, clock, g1, g2, g3, g4⟩ := hm.rel c _ hmem
          obtain ⟨v0, hρ, hx⟩ : ∃ v0, ρ c = some v0 ∧ a.eval x = v0 := ⟨_, (Gs.head hgs).own_inv.1, rfl⟩
          rw [g1] at hρ; cases hρ
          have hy : a.eval y = .int .i64 n := (Gs.head (Gs.tail hgs)).val_inv
          have hz := flat_d hf (Gs.head (Gs.tail (Gs.tail hgs)))
          obtain ⟨e, he, hek, hd⟩ := g4 i n s0 h1
          have hhit := findNow_hit (n := n) 0 (ents := ents.toList) (i := i) (e := e) (by simpa using he) hek (fun j e' hj he' => by
            have hjl : j < es.length := by have := (List.getElem?_eq_some_iff.1 h1).1; omega
            obtain ⟨⟨m, s'⟩, hms⟩ : ∃ p, es[j]? = some p := ⟨_, List.getElem?_eq_getElem hjl⟩
            obtain ⟨e2, q1, q2, _⟩ := g4 j m s' hms
            have he' : ents[j]? = some e' := by simpa using he'
            rw [q1] at he'; cases he'
            exact ⟨m, q2, h2 j m s' hj hms⟩)
          rw [Nat.zero_add] at hhit
          refine Does.skip (w' := { w with heap := w.heap.setIfInBounds r (.map (ents.modify i fun e => { e with key := .int .i64 n, val := a.eval z }) clock) }) ?_ ?_
          · simp [execOp, ho, hx, hy, Instr.mapUpdate, run_underlying hk, run_underlying hkk, MapKept.run_getObj_map g2, run_checkKey hkk, Instr.findKey, hhit, Instr.keyThatStays, he, hek, sameBits_int, MapKept.run_setObj_map _ g2]
          · refine After.set (hm.writeMap _ hmem g1 g2 _ _ fun hs => ⟨r, ents.modify i fun e => { e with key := .int .i64 n, val := a.eval z }, clock, g1, by rw [Array.getElem?_setIfInBounds]; simp [(Array.getElem?_eq_some_iff.1 g2).1], by simp [g3], fun j m s' hjm => ?_⟩) (.d _ _ (.val _))
            rw [List.getElem?_set] at hjm
            by_cases eij : i = j
            · subst eij
              rw [if_pos rfl] at hjm
              split at hjm
              · cases hjm
                exact ⟨{ e with key := .int .i64 n, val := a.eval z }, by rw [Array.getElem?_modify, if_pos rfl, he]; rfl, rfl, hz.stp hs⟩
              · cases hjm
            · rw [if_neg eij] at hjm
              obtain ⟨e2, q1, q2, q3⟩ := g4 j m s' hjm
              exact ⟨e2, by rw [Array.getElem?_modify, if_neg eij, q1], q2, q3.stp hs⟩
        · refine ⟨_, _, h3, fun o ho Keep M ρ a w hlm hm _ _ hgs => ?_⟩
          have hmem := mem_lookM (hlm c _ hlk)
          obtain ⟨r, ents, clock, g1, g2, g3, g4⟩ := hm.rel c _ hmem
          obtain ⟨v0, hρ, hx⟩ : ∃ v0, ρ c = some v0 ∧ a.eval x = v0 := ⟨_, (Gs.head hgs).own_inv.1, rfl⟩
          rw [g1] at hρ; cases hρ
          have hy : a.eval y = .int .i64 n := (Gs.head (Gs.tail hgs)).val_inv
          have hz := flat_d hf (Gs.head (Gs.tail (Gs.tail hgs)))
          have hmiss := findNow_miss (n := n) 0 (ents := ents.toList) (fun j e' he' => by
            have he' : ents[j]? = some e' := by simpa using he'
            have hjl : j < es.length := by have := (Array.getElem?_eq_some_iff.1 he').1; omega
            obtain ⟨⟨m, s'⟩, hms⟩ : ∃ p, es[j]? = some p := ⟨_, List.getElem?_eq_getElem hjl⟩
            obtain ⟨e2, q1, q2, _⟩ := g4 j m s' hms
            rw [q1] at he'; cases he'
            exact ⟨m, q2, h1 j m s' hms⟩)
          refine Does.skip (w' := { w with heap := w.heap.setIfInBounds r (.map (ents.push { key := .int .i64 n, val := a.eval z, born := clock }) (clock + 1)) }) ?_ ?_
          · simp [execOp, ho, hx, hy, Instr.mapUpdate, run_underlying hk, run_underlying hkk, MapKept.run_getObj_map g2, run_checkKey hkk, Instr.findKey, hmiss, MapKept.run_setObj_map _ g2]
          · refine After.set (hm.writeMap _ hmem g1 g2 _ _ fun hs => ⟨r, ents.push { key := .int .i64 n, val := a.eval z, born := clock }, clock + 1, g1, by rw [Array.getElem?_setIfInBounds]; simp [(Array.getElem?_eq_some_iff.1 g2).1], by simp [g3], fun j m s' hjm => ?_⟩) (.d _ _ (.val _))
            by_cases hj : j < es.length
            · rw [List.getElem?_append_left hj] at hjm
              obtain ⟨e2, q1, q2, q3⟩ := g4 j m s' hjm
              exact ⟨e2, by rw [Array.getElem?_push, if_neg (by omega), q1], q2, q3.stp hs⟩
            · rw [List.getElem?_append_right (by omega)] at hjm
              have hj0 : j = es.length := by
                have := (List.getElem?_eq_some_iff.1 hjm).1
                simp at this; omega
              subst hj0
              simp at hjm
              obtain ⟨rfl, rfl⟩ := hjm
              exact ⟨_, by rw [Array.getElem?_push, if_pos g3.symm], rfl, hz.stp hs⟩
      · exact h.elim
    · exact h.elim
  · exact h.elim

theorem lookup_sound {P : Program} {Γ : List (TypeId × TI)} (hT : TOK P Γ) {t : TypeId} {x y : Operand} {ok : Bool} {m k : SV} {lm : Nat → Option Mem} {κ : Nat} {K : SV → MD → Prop}
    (h : lookupV Γ t ok m k lm K) : ∃ r, K r .none ∧ OpOK P (.lookup t x y ok) [m, k] lm κ r .none := by
  unfold lookupV at h
  replace h := withT_elim h; obtain ⟨i, hi, h⟩ := h
  have hk := (hT t i hi).kind
  split at h
  · rename_i kt et hkind
    rw [hkind] at hk
    have hk : P.underlying t = some (.map kt et) := hk
    replace h := withT_elim h; obtain ⟨j, hj, h⟩ := h
    replace h := withT_elim h; obtain ⟨z, hz, h⟩ := h
    have hkk := (hT kt j hj).kind
    split at h
    · rename_i c n hjk
      rw [hjk] at hkk
      have hkk : P.underlying kt = some (.int .i64) := hkk
      split at h
      · rename_i es hlk
        have lookE : ∀ {s : SV} {b : Bool}, lookV ok s b K → ∃ r, K r .none ∧ ∀ {S Pm : Nat → Prop} {ρ : Names} {w : World} {v : Value}, G S Pm ρ w s v → G S Pm ρ w r (if ok then .tuple #[v, .bool b] else v) := fun {s b} h => by
          unfold lookV at h
          split at h
          · exact ⟨_, h, fun hg => .tup [s, .val (.bool b)] [_, .bool b] rfl (Gs.cons hg (.cons (.d _ _ (.val _)) .nil)).2⟩
          · exact ⟨_, force_elim h, fun hg => hg⟩
        rcases findK_elim h with ⟨i, s0, h1, h2, h3⟩ | ⟨h1, h3⟩
        · obtain ⟨res, hK, hres⟩ := lookE h3
          refine ⟨res, hK, fun o ho Keep M ρ a w hlm hm _ _ hgs => ?_⟩
          have hmem := mem_lookM (hlm c _ hlk)
          obtain ⟨r, ents, clock, g1, g2, g3, g4⟩ := hm.rel c _ hmem
          obtain ⟨v0, hρ, hx⟩ : ∃ v0, ρ c = some v0 ∧ a.eval x = v0 := ⟨_, (Gs.head hgs).own_inv.1, rfl⟩
          rw [g1] at hρ; cases hρ
          have hy : a.eval y = .int .i64 n := (Gs.head (Gs.tail hgs)).val_inv
          obtain ⟨e, he, hek, hd⟩ := g4 i n s0 h1
          have hhit := findNow_hit (n := n) 0 (ents := ents.toList) (i := i) (e := e) (by simpa using he) hek (fun j e' hj he' => by
            have hjl : j < es.length := by have := (List.getElem?_eq_some_iff.1 h1).1; omega
            obtain ⟨⟨m, s'⟩, hms⟩ : ∃ p, es[j]? = some p := ⟨_, List.getElem?_eq_getElem hjl⟩
            obtain ⟨e2, q1, q2, _⟩ := g4 j m s' hms
            have he' : ents[j]? = some e' := by simpa using he'
            rw [q1] at he'; cases he'
            exact ⟨m, q2, h2 j m s' hj hms⟩)
          rw [Nat.zero_add] at hhit
          refine Does.value (v := if ok then .tuple #[e.val, .bool true] else e.val) ?_ (After.same hm (hres (.d _ _ hd)))
          simp [execOp, ho, hx, hy, Instr.lookup, run_underlying hk, run_underlying hkk, MapKept.run_getObj_map g2, run_checkKey hkk, Instr.findKey, hhit]
        · obtain ⟨s, h3, hs⟩ := mkV_elim h3
          obtain ⟨res, hK, hres⟩ := lookE h3
          refine ⟨res, hK, fun o ho Keep M ρ a w hlm hm _ _ hgs => ?_⟩
          have hmem := mem_lookM (hlm c _ hlk)
          obtain ⟨r, ents, clock, g1, g2, g3, g4⟩ := hm.rel c _ hmem
          obtain ⟨v0, hρ, hx⟩ : ∃ v0, ρ c = some v0 ∧ a.eval x = v0 := ⟨_, (Gs.head hgs).own_inv.1, rfl⟩
          rw [g1] at hρ; cases hρ
          have hy : a.eval y = .int .i64 n := (Gs.head (Gs.tail hgs)).val_inv
          have hmiss := findNow_miss (n := n) 0 (ents := ents.toList) (fun j e' he' => by
            have he' : ents[j]? = some e' := by simpa using he'
            have hjl : j < es.length := by have := (Array.getElem?_eq_some_iff.1 he').1; omega
            obtain ⟨⟨m, s'⟩, hms⟩ : ∃ p, es[j]? = some p := ⟨_, List.getElem?_eq_getElem hjl⟩
            obtain ⟨e2, q1, q2, _⟩ := g4 j m s' hms
            rw [q1] at he'; cases he'
            exact ⟨m, q2, h1 j m s' hms⟩)
          obtain ⟨f, q1, q2, q3, zv, q4, q5, q6, q7, q8⟩ := (hT et z hz).inf
          refine Does.value (v := if ok then .tuple #[zv, .bool false] else zv) ?_ (After.same hm (hres ?_))
          · simp [execOp, ho, hx, hy, Instr.lookup, run_underlying hk, run_underlying hkk, MapKept.run_getObj_map g2, run_checkKey hkk, Instr.findKey, hmiss, zeroValue, typeInfo, q1, q4]
          · rcases hs with ⟨ha, rfl⟩ | ⟨ha, l, hl⟩
            · obtain ⟨f', p1, p2⟩ := (hT et z hz).zagg ha
              rw [q1] at p1; cases p1
              rw [q4] at p2; cases p2
              have : ((vals z.zero).take z.sz) = vals z.zero := List.take_of_length_le (by simp [vals, q7])
              rw [this]
              exact .agg _ z.zero (by simp [vals]) (Gs.vals _).2
            · have hz1 := q6 ha
              have : z.zero = [zv] := by rw [← q5, hz1]
              rw [this] at hl
              cases hl
              exact .d _ _ (.val _)
      · exact h.elim
    · exact h.elim
  · exact h.elim

end Go.Gs
/- A call by contract, and all operations. -/
namespace Go.Gs

/-- All that was there is as it was. -/
theorem MemOK.same {Keep : Nat → Prop} {M : List (Nat × Mem)} {ρ : Names} {w w' : World} (hm : MemOK Keep M ρ w) (hos : w'.os = w.os) (htape : w'.tape = w.tape) (hout : SameOut w w')
    (hsize : w.heap.size ≤ w'.heap.size) (hblock : ∀ b, b < w.heap.size → w'.heap[b]? = w.heap[b]?) : Stp (Own M ρ) (Own M ρ) ρ ρ w w' ∧ MemOK Keep M ρ w' := by
  have hs : Stp (Own M ρ) (Own M ρ) ρ ρ w w' := ⟨hos, htape, hout, hsize, fun b hb _ => hblock b hb, fun b hb => .inl hb, fun _ _ h => h⟩
  exact ⟨hs, fun k m h => (hm.rel k m h).keep hs rfl (fun v b h1 h2 => hblock b (hm.old b ⟨k, m, v, h, h1, h2⟩).1), hm.keys, hm.apart,
    fun b hb => ⟨Nat.lt_of_lt_of_le (hm.old b hb).1 hsize, (hm.old b hb).2⟩, fun b hb => Nat.lt_of_lt_of_le (hm.kp b hb) hsize⟩

theorem MRel.move {S S' Pm Pm' : Nat → Prop} {ρ ρ' : Names} {w : World} {k k' : Nat} {m : Mem} (hk : ρ' k' = ρ k) (hf : flatM m) (hd : ∀ s v, (flat s = true ∨ True) → D S w s v → D S' w s v ∨ False)
    (h : MRel S Pm ρ w k m) : MRel S' Pm' ρ' w k' m := by
  cases m with
  | box T cs =>
    obtain ⟨b, vs, h1, h2, h3, h4, h5⟩ := h
    exact ⟨b, vs, hk.trans h1, h2, h3, h4, fun j s v hs hv => .d _ _ ((hd s v (.inr trivial) (flat_d (flats_mem hf j s hs) (h5 j s v hs hv))).resolve_right id)⟩
  | arr T enc sz xs =>
    obtain ⟨v, cells, h1, h2, h3, h4, h5, h6⟩ := h
    refine ⟨v, cells, hk.trans h1, h2, h3, h4, h5, fun i j x s hx hs => ?_⟩
    obtain ⟨u, hu, hd'⟩ := h6 i j x s hx hs
    exact ⟨u, hu, (hd s u (.inr trivial) hd').resolve_right id⟩
  | garr T sz xs => exact hf.elim
  | map es =>
    obtain ⟨r, ents, clock, h1, h2, h3, h4⟩ := h
    refine ⟨r, ents, clock, hk.trans h1, h2, h3, fun i n s hi => ?_⟩
    obtain ⟨e, g1, g2, g3⟩ := h4 i n s hi
    exact ⟨e, g1, g2, (hd s _ (.inr trivial) g3).resolve_right id⟩

theorem MRel.scalar {S S' Pm Pm' : Nat → Prop} {ρ ρ' : Names} {w : World} {k k' : Nat} {m : Mem} (hk : ρ' k' = ρ k) (hf : scalarM m) (h : MRel S Pm ρ w k m) : MRel S' Pm' ρ' w k' m := by
  cases m with
  | box T cs =>
    obtain ⟨b, vs, h1, h2, h3, h4, h5⟩ := h
    exact ⟨b, vs, hk.trans h1, h2, h3, h4, fun j s v hs hv => .d _ _ (scalar_any (scalar_mem hf j s hs) (h5 j s v hs hv))⟩
  | arr T enc sz xs =>
    obtain ⟨v, cells, h1, h2, h3, h4, h5, h6⟩ := h
    refine ⟨v, cells, hk.trans h1, h2, h3, h4, h5, fun i j x s hx hs => ?_⟩
    obtain ⟨u, hu, hd'⟩ := h6 i j x s hx hs
    exact ⟨u, hu, scalar_any (Pm := Pm) (ρ := ρ) (scalar_mem (hf x (List.mem_of_getElem? hx)) j s hs) (.d _ _ hd')⟩
  | garr T sz xs => exact hf.elim
  | map es =>
    obtain ⟨r, ents, clock, h1, h2, h3, h4⟩ := h
    refine ⟨r, ents, clock, hk.trans h1, h2, h3, fun i n s hi => ?_⟩
    obtain ⟨e, g1, g2, g3⟩ := h4 i n s hi
    exact ⟨e, g1, g2, scalar_any (Pm := Pm) (ρ := ρ) (scalar_mem hf i s (by simp [hi])) (.d _ _ g3)⟩

/-- The one block of a callee's own. -/
def one (v : Value) : Names := fun k => if k = 0 then some v else none

theorem own_one {v : Value} {m : Mem} {b : Nat} : Own [(0, m)] (one v) b ↔ blkOf v = some b := by
  constructor
  · rintro ⟨k, m', v', h, h1, h2⟩
    cases h with
    | head => simp [one] at h1; subst h1; exact h2
    | tail _ h => cases h
  · intro h; exact ⟨0, m, v, .head _, by simp [one], h⟩

theorem one_zero {v : Value} : one v 0 = some v := rfl

theorem noKey_mem {k : Nat} {cs : List SV} (h : noKey k cs = true) : ∀ k' off, .loc k' off ∈ cs → k' ≠ k := by
  induction cs with
  | nil => intro _ _ h; cases h
  | cons c cs ih =>
    intro k' off hm e
    subst e
    cases hm with
    | head => simp [noKey, Nat.beq_refl] at h
    | tail _ hm =>
      refine ih ?_ k' off hm rfl
      cases c <;> simp only [noKey] at h <;> (try split at h) <;> simp_all

theorem cleans1_loc {lm : Nat → Option Mem} {cs : List SV} (h : cleans1 lm cs = true) : ∀ k off, .loc k off ∈ cs → ∃ m, lm k = some m := by
  induction cs with
  | nil => intro _ _ h; cases h
  | cons x xs ih =>
    intro k off hm
    simp only [cleans1] at h
    split at h
    · rename_i hx
      cases hm with
      | head =>
        simp only [clean1] at hx
        cases hq : lm k with
        | none => simp [hq] at hx
        | some m => exact ⟨m, rfl⟩
      | tail _ hm => exact ih h k off hm
    · cases h

/-- The arguments, one's own block 'k' among them handed over. -/
theorem gives_g {lm : Nat → Option Mem} {Keep : Nat → Prop} {M : List (Nat × Mem)} {ρ : Names} {w : World} (hlm : ∀ k m, lm k = some m → (k, m) ∈ M) (hm : MemOK Keep M ρ w)
    {k : Nat} {m : Mem} {v0 : Value} (hkm : lm k = some m) (hv0 : ρ k = some v0) {S' Pm' : Nat → Prop} (hsub : ∀ b, S' b → Keep b ∨ Own M ρ b) (hPm : ∀ b, Pm' b → blkOf v0 = some b) :
    ∀ {cs : List SV} {vs : List Value}, Gs (fun b => Keep b ∨ Own M ρ b) (Own M ρ) ρ w cs vs → cleanG lm k cs = true → Gs S' Pm' (one v0) w (gives lm k cs) vs
  | [], vs, hg, _ => by rw [hg.nil_inv]; exact .nil
  | c :: cs, vs, hg, hc => by
    obtain ⟨v, vs', rfl, h1, h2⟩ := hg.cons_inv
    have hP : ∀ b, ¬ Own M ρ b → ¬ Pm' b := fun b hn hp => hn ⟨k, m, v0, hlm k m hkm, hv0, hPm b hp⟩
    have hP2 : ∀ k' b, (∃ m', lm k' = some m') → k' ≠ k → ρ k' = some (.pointer (some ⟨b, 0, none⟩)) → ¬ Pm' b := fun k' b ⟨m', hm'⟩ hne hρ hp =>
      hm.apart k' m' k m _ v0 b (hlm k' m' hm') (hlm k m hkm) hne hρ hv0 rfl (hPm b hp)
    have key : G S' Pm' (one v0) w (give lm k c) v ∧ cleanG lm k cs = true := by
      unfold cleanG at hc
      split at hc
      · rename_i heq; cases heq
      · rename_i k' off r heq
        cases heq
        split at hc
        · rename_i hb
          have := Nat.eq_of_beq_eq_true hb
          subst this
          refine ⟨?_, hc⟩
          simp only [give, Nat.beq_refl]
          obtain ⟨b, hρ, rfl⟩ := h1.loc_inv
          rw [hv0] at hρ; cases hρ
          exact .loc 0 off b one_zero
        · rename_i hb
          obtain ⟨hc1, hc2⟩ := andB_elim hc
          refine ⟨?_, hc2⟩
          simp only [give, hb]
          have hlk : ∃ m', lm k' = some m' := by
            simp only [clean, clean1] at hc1
            cases hq : lm k' with
            | none => simp [hq] at hc1
            | some m' => exact ⟨m', rfl⟩
          exact view_g hlm hm hsub h1 (.inl hc1) hP (fun k2 off2 b he hρ => by
            rcases he with he | ⟨_, _, he, _⟩
            · cases he; exact hP2 _ b hlk (Nat.ne_of_beq_eq_false hb) hρ
            · cases he)
      · rename_i k' r heq
        cases heq
        split at hc
        · rename_i hb
          have := Nat.eq_of_beq_eq_true hb
          subst this
          refine ⟨?_, hc⟩
          simp only [give, Nat.beq_refl]
          obtain ⟨hρ, h3⟩ := h1.own_inv
          rw [hv0] at hρ; cases hρ
          exact .own 0 _ one_zero h3
        · cases hc
      · rename_i k' sz lo n r heq
        cases heq
        split at hc
        · rename_i hb
          have := Nat.eq_of_beq_eq_true hb
          subst this
          refine ⟨?_, hc⟩
          simp only [give, Nat.beq_refl]
          obtain ⟨b, len, cap, cap', hρ, rfl, h3, h4⟩ := h1.win_inv
          rw [hv0] at hρ; cases hρ
          exact .win 0 sz lo n b len cap cap' one_zero h3 h4
        · cases hc
      · rename_i f caps r heq
        cases heq
        obtain ⟨hc0, hc⟩ := andB_elim hc
        obtain ⟨hc1, hc2⟩ := andB_elim hc
        refine ⟨?_, hc2⟩
        simp only [give]
        refine view_g hlm hm hsub h1 (.inl hc1) hP (fun k2 off2 b he hρ => ?_)
        rcases he with he | ⟨f', cs', he, hmem⟩
        · cases he
        · cases he
          refine hP2 k2 b ?_ (noKey_mem hc0 k2 off2 hmem) hρ
          simp only [clean] at hc1
          split at hc1
          · rename_i hcl; exact cleans1_loc hcl k2 off2 hmem
          · cases hc1
      · rename_i s r hn1 hn2 hn2' hn3 heq
        cases heq
        obtain ⟨hc1, hc2⟩ := andB_elim hc
        refine ⟨?_, hc2⟩
        have hgv : give lm k c = view lm c := by
          cases c <;> first | rfl | exact absurd rfl (hn1 _ _) | exact absurd rfl (hn2 _) | exact absurd rfl (hn2' _ _ _ _)
        rw [hgv]
        exact view_g hlm hm hsub h1 (.inl hc1) hP (fun k2 off2 b he hρ => by
          rcases he with rfl | ⟨f', cs', rfl, _⟩
          · exact absurd rfl (hn1 _ _)
          · exact absurd rfl (hn3 _ _))
    exact .cons key.1 (gives_g hlm hm hkm hv0 hsub hPm h2 key.2)

theorem MRel.name {S Pm : Nat → Prop} {ρ : Names} {w : World} {k : Nat} {m : Mem} (h : MRel S Pm ρ w k m) : ∃ v, ρ k = some v := by
  cases m with
  | box T cs => obtain ⟨b, vs, h1, _⟩ := h; exact ⟨_, h1⟩
  | arr T enc sz xs => obtain ⟨v, cells, h1, _⟩ := h; exact ⟨_, h1⟩
  | garr T sz xs => obtain ⟨v, cells, h1, _⟩ := h; exact ⟨_, h1⟩
  | map es => obtain ⟨r, ents, clock, h1, _⟩ := h; exact ⟨_, h1⟩

theorem mv_g {S Pm S' Pm' : Nat → Prop} {ρ ρ' : Names} {w : World} {κ : Nat} {v0 : Value} (h0 : ρ' 0 = some v0) (hκ : ρ κ = some v0) : ∀ (r : SV) {v : Value}, mvOK r = true → G S' Pm' ρ' w r v → G S Pm ρ w (mv κ r) v := by
  intro r
  induction r using SV.rec (motive_2 := fun cs => ∀ {vs : List Value}, mvOK.mvOKs cs = true → Gs S' Pm' ρ' w cs vs → Gs S Pm ρ w (mv.mvs κ cs) vs) with
  | val v => intro u _ hg; exact .d _ _ (hg.val_inv ▸ .val _)
  | pr p i => intro u _ hg; rw [hg.pr_inv]; exact .d _ _ (.pr p i)
  | agg cs ih =>
    intro u h hg
    simp only [mvOK] at h
    obtain ⟨vs, rfl, hvs⟩ := hg.agg_inv
    have := ih h hvs
    simp only [mv]
    exact .agg _ vs this.1 this.2
  | tup cs ih =>
    intro u h hg
    simp only [mvOK] at h
    obtain ⟨vs, rfl, hvs⟩ := hg.tup_inv
    have := ih h hvs
    simp only [mv]
    exact .tup _ vs this.1 this.2
  | own k =>
    intro u h hg
    simp only [mvOK] at h
    have := Nat.eq_of_beq_eq_true h
    subst this
    obtain ⟨g1, g2⟩ := hg.own_inv
    rw [h0] at g1; cases g1
    simp only [mv]
    exact .own _ _ hκ g2
  | sl _ _ => intro u h _; simp [mvOK] at h
  | ptr _ _ => intro u h _; simp [mvOK] at h
  | loc k off =>
    intro u h hg
    simp only [mvOK] at h
    have := Nat.eq_of_beq_eq_true h
    subst this
    obtain ⟨b, g1, rfl⟩ := hg.loc_inv
    rw [h0] at g1; cases g1
    simp only [mv]
    exact .loc _ _ _ hκ
  | eloc _ _ _ _ => intro u h _; simp [mvOK] at h
  | win _ _ _ _ => intro u h _; simp [mvOK] at h
  | fn f cs ih =>
    intro u h hg
    simp only [mvOK] at h
    obtain ⟨vs, rfl, hvs⟩ := hg.fn_inv
    have := ih h hvs
    simp only [mv]
    exact .fn _ _ vs this.1 this.2
  | junk => intro u _ _; exact .d _ _ (.junk u)
  | nils => intro u h _; simp [mvOK] at h
  | anyb => intro u h _; simp [mvOK] at h
  | full _ _ => intro u h _; simp [mvOK] at h
  | nil =>
    rename_i vs _ hg
    simpa [mv.mvs, hg.nil_inv] using Gs.nil
  | cons c cs ih1 ih2 =>
    rename_i vs h hg
    simp only [mvOK.mvOKs] at h
    split at h
    · rename_i h1
      obtain ⟨v, vs', rfl, g1, g2⟩ := hg.cons_inv
      exact .cons (ih1 h1 g1) (ih2 h g2)
    · cases h

theorem isArr_elim {o : Option Mem} (h : isArr o = true) : ∃ (T : TypeId) (α : Type) (enc : α → List SV) (sz : Nat) (xs : List α), o = some (.arr T enc sz xs) := by
  unfold isArr at h
  split at h
  · exact ⟨_, _, _, _, _, rfl⟩
  · cases h

/-- The arguments, one's own block 'k' among them let go. -/
theorem sees_g {lm : Nat → Option Mem} {Keep : Nat → Prop} {M : List (Nat × Mem)} {ρ : Names} {w : World} (hlm : ∀ k m, lm k = some m → (k, m) ∈ M) (hm : MemOK Keep M ρ w)
    {k : Nat} {T : TypeId} {α : Type} {enc : α → List SV} {sz : Nat} {xs : List α} (hkm : lm k = some (.arr T enc sz xs)) {S' : Nat → Prop} (hsub : ∀ b, S' b → Keep b ∨ Own M ρ b)
    (hk : ∀ v b, ρ k = some v → blkOf v = some b → ¬ S' b) {Pm' : Nat → Prop} (hP : ∀ b, ¬ Pm' b) {ρ' : Names} :
    ∀ {cs : List SV} {vs : List Value}, Gs (fun b => Keep b ∨ Own M ρ b) (Own M ρ) ρ w cs vs → seeB lm k cs = true → Gs S' Pm' ρ' w (views lm cs) vs
  | [], vs, hg, _ => by rw [hg.nil_inv]; exact .nil
  | c :: cs, vs, hg, hc => by
    obtain ⟨v, vs', rfl, h1, h2⟩ := hg.cons_inv
    unfold seeB at hc
    split at hc
    · rename_i heq; cases heq
    · rename_i k' r heq
      cases heq
      split at hc
      · rename_i hb
        have := Nat.eq_of_beq_eq_true hb
        subst this
        refine .cons ?_ (sees_g hlm hm hkm hsub hk hP h2 hc)
        simp only [view, view1, hkm]
        exact .d _ _ (own_d hm (hlm _ _ hkm) hsub hk h1.own_inv.1)
      · cases hc
    · rename_i s r hn heq
      cases heq
      obtain ⟨hc1, hc2⟩ := andB_elim hc
      exact .cons (view_g hlm hm hsub h1 (.inl hc1) (fun b _ => hP b) (fun _ _ b _ _ => hP b)) (sees_g hlm hm hkm hsub hk hP h2 hc2)

theorem call_sound {P : Program} {c : Call} {fx : Operand} (hc : c.callee = .value fx) {f : FuncId} {svs as : List SV} {lm : Nat → Option Mem} {κ : Nat} {K : SV → MD → Prop}
    (open_args : ∀ {S Pm : Nat → Prop} {ρ : Names} {a : Act} {w : World}, Gs S Pm ρ w svs ((operandsL (.call c)).map a.eval) →
      ∃ fv cv av, a.eval fx = .func (.func f) (List.toArray fv) (List.toArray cv) ∧ c.args.toList.map a.eval = av ∧ Gs S Pm ρ w as (fv ++ (av ++ cv)))
    (h : CallV P lm κ f as K) : ∃ r md, K r md ∧ OpOK P (.call c) svs lm κ r md := by
  cases h with
  | to r hcall hr hk =>
    refine ⟨r, .none, force_elim hk, fun o ho Keep M ρ a w hlm hm _ _ hgs => ?_⟩
    have hlm' := fun k m h => mem_lookM (hlm k m h)
    obtain ⟨fv, cv, av, hf, hav, hg⟩ := open_args hgs
    refine Does.call (call_run ho hc hf hav hcall.1) ?_
    by_cases hcl : clean lm as = true
    · have hr : flatR r = true := by unfold okRes at hr; rw [hcl] at hr; exact hr
      have hb : ∀ b, (Keep b ∨ Own M ρ b) → b < w.heap.size := fun b hb => hb.elim (hm.kp b) fun h => (hm.old b h).1
      have hv : Gs (fun b => (Keep b ∨ Own M ρ b) ∨ Own [] (fun _ => none) b) (Own [] (fun _ => none)) (fun _ => none) w (views lm as) (fv ++ (av ++ cv)) :=
        views_g hlm' hm (fun b h => h.resolve_right own_nil) (fun _ => own_nil) hg (.inl hcl)
      refine (hcall.2 (fun b => Keep b ∨ Own M ρ b) (fun _ => none) w _ hb (memOK_nil hb) (fun _ _ => rfl) hv).mono ?_
      rintro e w' ⟨v, ρ', rfl, hs, _, hgr⟩
      obtain ⟨hs', hm'⟩ := hm.same hs.os hs.tape hs.output hs.size fun b hb => hs.block b hb own_nil
      exact ⟨v, rfl, ρ, hs', hm', flatR_g (fun b h => .inl h) hr hgr, fun _ _ => rfl⟩
    · have hr : scalarR r = true := by unfold okRes at hr; rw [Bool.eq_false_iff.2 hcl] at hr; exact hr
      have hv : Gs (fun b => False ∨ Own [] (fun _ => none) b) (Own [] (fun _ => none)) (fun _ => none) w (views lm as) (fv ++ (av ++ cv)) :=
        views_g hlm' hm (fun b h => (h.resolve_left id |> own_nil).elim) (fun _ => own_nil) hg (.inr fun b _ h => own_nil (h.resolve_left id))
      refine (hcall.2 (fun _ => False) (fun _ => none) w _ (fun _ h => h.elim) (memOK_nil fun _ h => h.elim) (fun _ _ => rfl) hv).mono ?_
      rintro e w' ⟨v, ρ', rfl, hs, _, hgr⟩
      obtain ⟨hs', hm'⟩ := hm.same hs.os hs.tape hs.output hs.size fun b hb => hs.block b hb own_nil
      exact ⟨v, rfl, ρ, hs', hm', scalarR_g hr hgr, fun _ _ => rfl⟩
  | fresh m r hcall hr0 hfm hcl hk =>
    refine ⟨_, _, force_elim hk, fun o ho Keep M ρ a w hlm hm hκ hκM hgs => ?_⟩
    replace hκ := hκ rfl; replace hκM := hκM rfl
    have hlm' := fun k m h => mem_lookM (hlm k m h)
    obtain ⟨fv, cv, av, hf, hav, hg⟩ := open_args hgs
    refine Does.call (call_run ho hc hf hav hcall.1) ?_
    have fin : ∀ (S0 : Nat → Prop), ((∀ b, Keep b ∨ Own M ρ b → S0 b) ∨ scalarM m) → ∀ (w' : World) (v : Value) (ρ' : Names), Stp (Own [] (fun _ => none)) (Own [(0, m)] ρ') (fun _ => none) ρ' w w' → MemOK S0 [(0, m)] ρ' w' →
        G (fun b => S0 b ∨ Own [(0, m)] ρ' b) (Own [(0, m)] ρ') ρ' w' r v → After Keep M ρ w κ (mv κ r) (.push m) v w' := by
      intro S0 hS0 w' v1 ρ' hs hm' hgr
      obtain ⟨v, hv0⟩ := (hm'.rel 0 m (.head _)).name
      have hownv : ∀ b, blkOf v = some b → w.heap.size ≤ b ∧ b < w'.heap.size := fun b hb =>
        have ho : Own [(0, m)] ρ' b := ⟨0, m, v, .head _, hv0, hb⟩
        ⟨(hs.own b ho).resolve_left own_nil, (hm'.old b ho).1⟩
      have hown0 : ∀ b, Own [(0, m)] ρ' b → blkOf v = some b := by
        rintro b ⟨k, m', v', h, h1, h2⟩
        cases h with
        | head => rw [hv0] at h1; cases h1; exact h2
        | tail _ h => cases h
      refine After.push (u := v) (hm.grow (fun _ h => h) hm.keys hκ hκM v m w' hs.os hs.tape hs.output hs.size (fun b hb _ => hs.block b hb own_nil)
        (fun k m v b h1 h2 h3 => hs.block b (hm.old b ⟨k, m, v, h1, h2, h3⟩).1 own_nil)
        (fun b hb => ⟨.inr (hownv b hb).1, (hownv b hb).2, fun k m v' h1 h2 h3 => by have := (hm.old b ⟨k, m, v', h1, h2, h3⟩).1; have := (hownv b hb).1; omega⟩) fun hst => ?_) (mv_g hv0 upd_same r hr0 hgr)
      rcases hS0 with hS0 | hsc
      · refine MRel.move (S := fun b => S0 b ∨ Own [(0, m)] ρ' b) (Pm := Own [(0, m)] ρ') (by rw [upd_same, hv0]) hfm (fun s u _ hd => .inl (hd.less fun b hb => ?_)) (hm'.rel 0 m (.head _))
        rcases hb with hb | ⟨k, m', v', h1, h2, h3⟩
        · exact .inl (hS0 b (.inl hb))
        · cases h1 with
          | head => rw [upd_same] at h2; cases h2; exact .inr ⟨0, m, v, .head _, hv0, h3⟩
          | tail _ h1 => rw [upd_ne (fun e => by subst e; exact hκM _ h1)] at h2; exact .inl (hS0 b (.inr ⟨k, m', v', h1, h2, h3⟩))
      · exact MRel.scalar (by rw [upd_same, hv0]) hsc (hm'.rel 0 m (.head _))
    by_cases hcl' : clean lm as = true
    · have hb : ∀ b, (Keep b ∨ Own M ρ b) → b < w.heap.size := fun b hb => hb.elim (hm.kp b) fun h => (hm.old b h).1
      have hv : Gs (fun b => (Keep b ∨ Own M ρ b) ∨ Own [] (fun _ => none) b) (Own [] (fun _ => none)) (fun _ => none) w (views lm as) (fv ++ (av ++ cv)) :=
        views_g hlm' hm (fun b h => h.resolve_right own_nil) (fun _ => own_nil) hg (.inl hcl')
      refine (hcall.2 (fun b => Keep b ∨ Own M ρ b) (fun _ => none) w _ hb (memOK_nil hb) (fun _ _ => rfl) hv).mono ?_
      rintro e w' ⟨v, ρ', rfl, hs, hm', hgr⟩
      exact ⟨v, rfl, fin _ (.inl fun b h => h) w' v ρ' hs hm' hgr⟩
    · have hsc := hcl.resolve_left hcl'
      have hv : Gs (fun b => False ∨ Own [] (fun _ => none) b) (Own [] (fun _ => none)) (fun _ => none) w (views lm as) (fv ++ (av ++ cv)) :=
        views_g hlm' hm (fun b h => (h.resolve_left id |> own_nil).elim) (fun _ => own_nil) hg (.inr fun b _ h => own_nil (h.resolve_left id))
      refine (hcall.2 (fun _ => False) (fun _ => none) w _ (fun _ h => h.elim) (memOK_nil fun _ h => h.elim) (fun _ _ => rfl) hv).mono ?_
      rintro e w' ⟨v, ρ', rfl, hs, hm', hgr⟩
      exact ⟨v, rfl, fin _ (.inr hsc) w' v ρ' hs hm' hgr⟩
  | see k r hcall hka hcs hr hk =>
    obtain ⟨T, α, enc, sz, xs, hlk⟩ := isArr_elim hka
    refine ⟨r, .drop k, force_elim hk, fun o ho Keep M ρ a w hlm hm _ _ hgs => ?_⟩
    have hlm' := fun k m h => mem_lookM (hlm k m h)
    obtain ⟨fv, cv, av, hf, hav, hg⟩ := open_args hgs
    refine Does.call (call_run ho hc hf hav hcall.1) ?_
    have hmem := hlm' k _ hlk
    have hsub : ∀ b, (Keep b ∨ Own (dropM M k) ρ b) → Keep b ∨ Own M ρ b := fun b hb => hb.imp id fun ⟨k', m', v', h1, h2, h3⟩ => ⟨k', m', v', mem_dropM _ h1, h2, h3⟩
    have hb : ∀ b, (Keep b ∨ Own (dropM M k) ρ b) → b < w.heap.size := fun b hb => (hsub b hb).elim (hm.kp b) fun h => (hm.old b h).1
    have hkk : ∀ v b, ρ k = some v → blkOf v = some b → ¬ (Keep b ∨ Own (dropM M k) ρ b) := fun v b hv' hb hSb => by
      rcases hSb with hSb | ⟨k', m', v', h4, h5, h6⟩
      · exact (hm.old b ⟨k, _, v, hmem, hv', hb⟩).2 hSb
      · exact hm.apart k _ k' m' v v' b hmem (mem_dropM _ h4) (Ne.symm (dropM_ne hm.keys _ h4)) hv' h5 hb h6
    have hv : Gs (fun b => (Keep b ∨ Own (dropM M k) ρ b) ∨ Own [] (fun _ => none) b) (Own [] (fun _ => none)) (fun _ => none) w (views lm as) (fv ++ (av ++ cv)) :=
      sees_g hlm' hm hlk (fun b h => hsub b (h.resolve_right own_nil)) (fun v b h1 h2 h3 => hkk v b h1 h2 (h3.resolve_right own_nil)) (fun _ => own_nil) hg hcs
    refine (hcall.2 (fun b => Keep b ∨ Own (dropM M k) ρ b) (fun _ => none) w _ hb (memOK_nil hb) (fun _ _ => rfl) hv).mono ?_
    rintro e w' ⟨v, ρ', rfl, hs, _, hgr⟩
    obtain ⟨hs1, hm1⟩ := hm.let_go (M1 := dropM M k) (fun x hx => mem_dropM x hx) (pairwise_dropM hm.keys)
    obtain ⟨hs', hm'⟩ := hm1.same hs.os hs.tape hs.output hs.size fun b hb => hs.block b hb own_nil
    exact ⟨v, rfl, ρ, ⟨hs.os, hs.tape, hs.output, hs.size, fun b hb _ => hs.block b hb own_nil, fun b ⟨k', m', v', h1, h2, h3⟩ => .inl ⟨k', m', v', mem_dropM _ h1, h2, h3⟩, fun _ _ h => h⟩, hm',
      flatR_g (fun b h => .inl h) hr hgr, fun _ _ => rfl⟩
  | hand k m m' r hlk hcall hfm hfm' hcl hr hk =>
    refine ⟨r, .set k m', force_elim hk, fun o ho Keep M ρ a w hlm hm _ _ hgs => ?_⟩
    have hlm' := fun k m h => mem_lookM (hlm k m h)
    obtain ⟨fv, cv, av, hf, hav, hg⟩ := open_args hgs
    refine Does.call (call_run ho hc hf hav hcall.1) ?_
    have hkm := hlm' k m hlk
    obtain ⟨v0, hv0⟩ := (hm.rel k m hkm).name
    have hS : ∀ b, ((Keep b ∨ Own M ρ b) ∧ blkOf v0 ≠ some b) ∨ Own [(0, m)] (one v0) b → Keep b ∨ Own M ρ b := fun b hb =>
      hb.elim (fun h => h.1) fun h => .inr ⟨k, m, v0, hkm, hv0, own_one.1 h⟩
    have hlt : ∀ b, (Keep b ∨ Own M ρ b) → b < w.heap.size := fun b hb => hb.elim (hm.kp b) fun h => (hm.old b h).1
    have hm0 : MemOK (fun b => (Keep b ∨ Own M ρ b) ∧ blkOf v0 ≠ some b) [(0, m)] (one v0) w := by
      refine ⟨fun k' m1 h => ?_, List.pairwise_cons.2 ⟨fun _ h => (by cases h), List.Pairwise.nil⟩, fun k1 m1 k2 m2 _ _ _ h1 h2 hne => ?_, fun b hb => ?_, fun b hb => hlt b hb.1⟩
      · cases h with
        | head => exact MRel.move (by rw [one_zero, hv0]) hfm (fun s u _ hd => .inl (hd.less hS)) (hm.rel k m hkm)
        | tail _ h => cases h
      · cases h1 with
        | head => cases h2 with
          | head => exact absurd rfl hne
          | tail _ h => cases h
        | tail _ h => cases h
      · have := own_one.1 hb
        exact ⟨(hm.old b ⟨k, m, v0, hkm, hv0, this⟩).1, fun h => h.2 this⟩
    have hgv := gives_g (Pm' := Own [(0, m)] (one v0)) hlm' hm hlk hv0 hS (fun b hb => own_one.1 hb) hg hcl
    refine (hcall.2 _ (one v0) w _ (fun b hb => hlt b hb.1) hm0 (fun k' hk' => by
      have : k' ≠ 0 := by simp at hk'; omega
      simp [one, this]) hgv).mono ?_
    rintro e w' ⟨v, ρ', rfl, hs, hm', hgr⟩
    have hρ0 : ρ' 0 = some v0 := hs.rho 0 v0 one_zero
    have hown' : ∀ b, Own [(0, m')] ρ' b → blkOf v0 = some b := by
      rintro b ⟨k1, m1, v1, h, h1, h2⟩
      cases h with
      | head => rw [hρ0] at h1; cases h1; exact h2
      | tail _ h => cases h
    have hkeys : (setM M k m').map (·.1) = M.map (·.1) := keys_setM
    have hst : Stp (Own M ρ) (Own (setM M k m') ρ) ρ ρ w w' :=
      ⟨hs.os, hs.tape, hs.output, hs.size, fun b hb hn => hs.block b hb fun ho => hn ⟨k, m, v0, hkm, hv0, own_one.1 ho⟩, fun b hb => .inl (own_keys hkeys.symm hb), fun _ _ h => h⟩
    have hback : ∀ b, Keep b ∨ Own (setM M k m') ρ b → ((Keep b ∨ Own M ρ b) ∧ blkOf v0 ≠ some b) ∨ Own [(0, m')] ρ' b := fun b hb => by
      by_cases hbv : blkOf v0 = some b
      · exact .inr ⟨0, m', v0, .head _, hρ0, hbv⟩
      · exact .inl ⟨hb.imp id fun h => own_keys hkeys.symm h, hbv⟩
    refine ⟨v, rfl, ρ, hst, MemOK.next k hm hst (pairwise_keys hkeys hm.keys) ?_ ?_ ?_, flatR_g hback hr hgr, fun _ _ => rfl⟩
    · intro k' m1 h1 hne
      rcases mem_setM hm.keys _ h1 with ⟨_, h2⟩ | h2
      · refine ⟨h2, rfl, fun v' b' hv' hb' => hs.block b' (hm.old b' ⟨k', m1, v', h2, hv', hb'⟩).1 fun ho => ?_⟩
        exact hm.apart k' m1 k m v' v0 b' h2 hkm hne hv' hv0 hb' (own_one.1 ho)
      · cases h2; exact absurd rfl hne
    · intro m1 h1
      rcases mem_setM hm.keys _ h1 with ⟨h2, _⟩ | h2
      · exact absurd rfl h2
      · cases h2
        exact MRel.move (by rw [hv0, hρ0]) hfm' (fun s u _ hd => .inl (hd.less hback)) (hm'.rel 0 m' (.head _))
    · intro m1 v' b' _ hv' hb'
      rw [hv0] at hv'; cases hv'
      have ho : Own M ρ b' := ⟨k, m, v0, hkm, hv0, hb'⟩
      refine ⟨fun k' m2 v2 h2 hne hv2 hb2 => ?_, Nat.lt_of_lt_of_le (hm.old b' ho).1 hs.size, (hm.old b' ho).2⟩
      rcases mem_setM hm.keys _ h2 with ⟨_, h3⟩ | h3
      · exact hm.apart k' m2 k m v2 v0 b' h3 hkm hne hv2 hv0 hb2 hb'
      · cases h3; exact absurd rfl hne

theorem vals_g {vs : List Value} {S Pm : Nat → Prop} {ρ : Names} {w : World} : Gs S Pm ρ w (vs.map .val) vs := by
  refine ⟨by simp, fun j s v h1 h2 => ?_⟩
  rw [List.getElem?_map, h2] at h1
  cases h1
  exact .d _ _ (.val v)
theorem ofV_g {v : Value} {S Pm : Nat → Prop} {ρ : Names} {w : World} : G S Pm ρ w (ofV v) v := by
  unfold ofV
  split
  · rename_i a
    have this := vals_g (vs := a.toList) (S := S) (Pm := Pm) (ρ := ρ) (w := w)
    have h := G.agg (S := S) (Pm := Pm) (ρ := ρ) (w := w) _ _ this.1 this.2
    simpa using h
  · exact .d _ _ (.val v)
theorem ofVs_g {vs : List Value} {S Pm : Nat → Prop} {ρ : Names} {w : World} : Gs S Pm ρ w (vs.map ofV) vs := by
  refine ⟨by simp, fun j s v h1 h2 => ?_⟩
  rw [List.getElem?_map, h2] at h1
  cases h1
  exact ofV_g
theorem concL_elim : ∀ {cs : List SV} {K : List Value → Prop}, concL cs K → ∃ vs, K vs ∧ cs = vs.map .val
  | [], K, h => ⟨[], h, rfl⟩
  | .val v :: cs, K, h => by
    have h : concL cs fun vs => K (v :: vs) := h
    obtain ⟨vs, h1, h2⟩ := concL_elim h
    exact ⟨v :: vs, h1, by rw [h2]; rfl⟩
theorem conc_elim {s : SV} {K : Value → Prop} (h : conc s K) : ∃ v, K v ∧ ∀ {S Pm : Nat → Prop} {ρ : Names} {w : World} {u : Value}, G S Pm ρ w s u → u = v := by
  cases s with
  | val v => exact ⟨v, h, fun hu => hu.val_inv⟩
  | agg cs =>
    obtain ⟨vs, h1, h2⟩ := concL_elim h
    refine ⟨_, h1, fun hu => ?_⟩
    obtain ⟨us, rfl, hus⟩ := hu.agg_inv
    subst h2
    have : us = vs := by
      refine List.ext_getElem? fun j => ?_
      have hl := hus.1
      rw [List.length_map] at hl
      rcases Nat.lt_or_ge j vs.length with hj | hj
      · have h1 := hus.2 j (.val vs[j]) (us[j]'(by omega)) (by simp [hj]) (by simp)
        rw [List.getElem?_eq_getElem (by omega), List.getElem?_eq_getElem hj, h1.val_inv]
      · rw [List.getElem?_eq_none (by omega), List.getElem?_eq_none hj]
    rw [this]
  | _ => exact h.elim
theorem concs_elim : ∀ {cs : List SV} {K : List Value → Prop}, concs cs K → ∃ vs, K vs ∧ ∀ {S Pm : Nat → Prop} {ρ : Names} {w : World} {us : List Value}, Gs S Pm ρ w cs us → us = vs
  | [], K, h => ⟨[], h, fun hg => hg.nil_inv⟩
  | c :: cs, K, h => by
    have h : conc c fun v => concs cs fun vs => K (v :: vs) := h
    obtain ⟨v, h, h1⟩ := conc_elim h
    obtain ⟨vs, h, h2⟩ := concs_elim h
    refine ⟨v :: vs, h, fun hg => ?_⟩
    obtain ⟨u, us, rfl, g1, g2⟩ := hg.cons_inv
    rw [h1 g1, h2 g2]

theorem opV_sound {P : Program} {Γ : List (TypeId × TI)} (hT : TOK P Γ) {op : Op} {svs : List SV} {lm : Nat → Option Mem} {κ : Nat} {K : SV → MD → Prop} (hlive : Live lm svs)
    (h : opV P Γ op svs lm κ K) : ∃ r md, K r md ∧ OpOK P op svs lm κ r md := by
  unfold opV at h
  split at h
  · rename_i x s
    exact ⟨s, .none, h, .pure fun o ho S Pm ρ a w hgs => ⟨_, by simp [execOp, ho], Gs.head hgs⟩⟩
  · rename_i x s
    exact ⟨s, .none, h, .pure fun o ho S Pm ρ a w hgs => ⟨_, by simp [execOp, ho], Gs.head hgs⟩⟩
  · obtain ⟨r, h1, h2⟩ := pick_sound h; exact ⟨r, _, h1, h2⟩
  · exact alloc_sound hT h
  · exact box_sound h
  · obtain ⟨r, h1, h2⟩ := build_sound hT h; exact ⟨r, _, h1, h2⟩
  · exact buildSlice_sound hT h
  · obtain ⟨r, h1, h2⟩ := load_sound hT h; exact ⟨r, _, h1, h2⟩
  · exact store_sound hT h
  · split at h
    · exact ⟨_, _, h, .pure fun o ho S Pm ρ a w hgs => by
        obtain ⟨b, hρ, hx⟩ := (Gs.head hgs).loc_inv
        exact ⟨_, by simp [execOp, ho, hx], .loc _ _ b hρ⟩⟩
    · rename_i cs
      exact ⟨_, _, h, .pure fun o ho S Pm ρ a w hgs => by
        have hg := Gs.head hgs
        obtain ⟨b, o', c, hx, _⟩ := hg.ptr_inv
        rw [hx] at hg
        exact ⟨_, by simp [execOp, ho, hx], hg⟩⟩
    · exact ⟨_, _, h, .pure fun o ho S Pm ρ a w hgs => by
        have hg := Gs.head hgs
        obtain ⟨b, len, cap, _, hx⟩ := hg.eloc_inv
        rw [hx] at hg
        exact ⟨_, by simp [execOp, ho, hx], hg⟩⟩
    · exact h.elim
  · obtain ⟨r, h1, h2⟩ := bin_sound hT h; exact ⟨r, _, h1, h2⟩
  · obtain ⟨r, h1, h2⟩ := un_sound h; exact ⟨r, _, h1, h2⟩
  · rename_i src t x s
    replace h := withT_elim h; obtain ⟨i0, hi0, h⟩ := h
    obtain ⟨d0, hd0⟩ := (hT src i0 hi0).und
    replace h := withT_elim h; obtain ⟨i, hi, h⟩ := h
    have hk := (hT t i hi).kind
    split at h
    · rename_i k k' n hkind
      rw [hkind] at hk
      have hk : P.underlying t = some (.int k) := hk
      refine ⟨_, _, fitK_elim h, .pure fun o ho S Pm ρ a w hgs => ⟨.int k (k.wrap n), ?_, (Good.val _).g⟩⟩
      have hx := (Gs.head hgs).val_inv
      simp [execOp, ho, hx, convert, run_underlying hd0, run_underlying hk, Conv.intToInt]
    · exact h.elim
  · rename_i fn first caps
    split at h
    · rename_i f
      split at h
      · rename_i he
        refine ⟨_, _, h, .pure fun o ho S Pm ρ a w hgs => ?_⟩
        have hf : first = #[] := by simpa using he
        subst hf
        replace hgs : Gs S Pm ρ w svs (caps.toList.map a.eval) := hgs
        refine ⟨.func (.func f) #[] (caps.toList.map a.eval).toArray, ?_, .fn f _ _ hgs.1 hgs.2⟩
        have he : caps.map a.eval = (caps.toList.map a.eval).toArray := by apply Array.ext'; simp
        rw [← he]
        simp [execOp, ho, Instr.makeFunc]
      · replace h := guardB_elim h; obtain ⟨he, h⟩ := h
        obtain ⟨vs, h, h1⟩ := concs_elim h
        have hf : caps = #[] := by simpa using he
        subst hf
        refine ⟨_, _, h, .pure fun o ho S Pm ρ a w hgs => ⟨_, ?_, .d _ _ (.val _)⟩⟩
        have hgs : Gs S Pm ρ w svs ((first.toList ++ []).map a.eval) := hgs
        rw [List.append_nil] at hgs
        have he : first.map a.eval = vs.toArray := by apply Array.ext'; simpa using h1 hgs
        simp [execOp, ho, Instr.makeFunc, he]
    · exact h.elim
  · exact makeSlice_sound hT h
  · exact slice_sound hT h
  · obtain ⟨r, h1, h2⟩ := fieldAddr_sound hT h; exact ⟨r, _, h1, h2⟩
  · obtain ⟨r, h1, h2⟩ := field_sound hT h; exact ⟨r, _, h1, h2⟩
  · obtain ⟨r, h1, h2⟩ := indexAddr_sound hT h; exact ⟨r, _, h1, h2⟩
  · obtain ⟨r, h1, h2⟩ := index_sound hT h; exact ⟨r, _, h1, h2⟩
  · rename_i x n s
    split at h
    · rename_i vs
      split at h
      · rename_i v r hd
        refine ⟨_, _, force_elim h, .pure fun o ho S Pm ρ a w hgs => ?_⟩
        obtain ⟨us, hx, hus⟩ := (Gs.head hgs).tup_inv
        have hg := hus.drop n
        rw [hd] at hg
        obtain ⟨u, us', hu, h1, _⟩ := hg.cons_inv
        have hu' : us[n]? = some u := by
          have : (us.drop n)[0]? = some u := by rw [hu]; rfl
          simpa using this
        exact ⟨u, by simp [execOp, ho, hx, Instr.extract, hu'], h1⟩
      · exact h.elim
    · exact h.elim
  · exact makeMap_sound hT h
  · exact mapUpdate_sound hT h
  · exact insert_sound hT h
  · obtain ⟨r, h1, h2⟩ := lookup_sound hT h; exact ⟨r, _, h1, h2⟩
  · rename_i svs c
    split at h
    · rename_i fx hc
      split at h
      · rename_i f caps args
        refine call_sound hc (fun {S Pm ρ a w} hg => ?_) h
        have hg : Gs S Pm ρ w (.fn f caps :: args) (a.eval fx :: c.args.toList.map a.eval) := by simpa [operandsL, hc, calleeL] using hg
        obtain ⟨cv, h1, h2⟩ := hg.head.fn_inv
        exact ⟨[], cv, _, h1, rfl, hg.tail.append h2⟩
      · rename_i f first args
        refine call_sound hc (fun {S Pm ρ a w} hg => ?_) h
        have hg : Gs S Pm ρ w (.val (.func (.func f) first ⟨[]⟩) :: args) (a.eval fx :: c.args.toList.map a.eval) := by simpa [operandsL, hc, calleeL] using hg
        refine ⟨first.toList, [], _, hg.head.val_inv, rfl, ofVs_g.append ?_⟩
        rw [List.append_nil]; exact hg.tail
      · exact h.elim
    · rename_i b hb
      exact builtin_sound hT hb hlive h
    · exact h.elim
  · exact h.elim

end Go.Gs
