/- The builtins len, min, max and append. -/
import Derived.Test.YtoggmkhegbfjfaaGreatMAD
import Derived.Lib.AppendZeros
import Derived.Laws.CopyRow
namespace Go.Gs

/-- There is a state in which the operands are so. -/
def Live (lm : Nat → Option Mem) (svs : List SV) : Prop := ∃ (Keep : Nat → Prop) (M : List (Nat × Mem)) (ρ : Names) (w : World) (vs : List Value),
  (∀ k m, lm k = some m → lookM M k = some m) ∧ MemOK Keep M ρ w ∧ Gs (fun b => Keep b ∨ Own M ρ b) (Own M ρ) ρ w svs vs

theorem run_builtin {P : Program} {o : Oper} {c : Call} {b : Builtin} (ho : o.op = .call c) (hb : c.callee = .builtin b) {a : Act} {w : World} {vs : List Value} (hv : c.args.toList.map a.eval = vs) :
    ∃ cs, (execOp a.eval o).run P w = (builtin b c.argTypes o.type cs vs.toArray).run P w := by
  have h : c.args.map a.eval = vs.toArray := by apply Array.ext'; simp [hv]
  have h2 : ∃ cs, (do let d ← resolve a.eval c o.type; invoke d.target d.args : Sem Next) = builtin b c.argTypes o.type cs (c.args.map a.eval) := by
    unfold resolve; rw [hb]; exact ⟨_, rfl⟩
  obtain ⟨cs, h2⟩ := h2
  refine ⟨cs, ?_⟩
  simp only [execOp, ho]
  rw [h2, h]

theorem gs_args {c : Call} {b : Builtin} (hb : c.callee = .builtin b) {a : Act} {S Pm : Nat → Prop} {ρ : Names} {w : World} {svs : List SV} (h : Gs S Pm ρ w svs ((operandsL (.call c)).map a.eval)) :
    Gs S Pm ρ w svs (c.args.toList.map a.eval) := by simpa [operandsL, hb, calleeL] using h

theorem types_one {tys : Array TypeId} {t : TypeId} (h : tys.toList = [t]) : tys = #[t] := by apply Array.ext'; simpa using h
theorem types_two {tys : Array TypeId} {t u : TypeId} (h : tys.toList = [t, u]) : tys = #[t, u] := by apply Array.ext'; simpa using h

theorem len_run {P : Program} {t e ty : TypeId} (ht : P.underlying t = some (.slice e)) (w : World) (a : Option Addr) (n c : Nat) : (Builtin.len_ #[t] ty #[.slice a n c]).run P w = .ok (.int .i64 n) w := by
  simp [Builtin.len_, run_underlying ht, goInt]

theorem cap_run {P : Program} {t e ty : TypeId} (ht : P.underlying t = some (.slice e)) (w : World) (a : Option Addr) (n c : Nat) : (Builtin.cap_ #[t] ty #[.slice a n c]).run P w = .ok (.int .i64 c) w := by
  simp [Builtin.cap_, run_underlying ht, goInt]

theorem sl_val {S Pm : Nat → Prop} {ρ : Names} {w : World} {α : Type} {enc : α → List SV} {xs : List α} {v : Value} (h : G S Pm ρ w (.sl enc xs) v) :
    xs.length ≤ 9223372036854775807 ∧ ∃ a cap, v = .slice a xs.length cap ∧ xs.length ≤ cap := by
  rcases h.sl_inv.sl_inv with ⟨rfl, a, rfl⟩ | ⟨_, b, o, cap, _, rfl, _, _, h1, h2, _⟩
  · exact ⟨by simp, a, 0, rfl, by simp⟩
  · exact ⟨h1, _, cap, rfl, h2⟩

theorem own_val {Keep : Nat → Prop} {M : List (Nat × Mem)} {ρ : Names} {w : World} (hm : MemOK Keep M ρ w) {k : Nat} {T : TypeId} {α : Type} {enc : α → List SV} {sz : Nat} {xs : List α}
    (hk : (k, Mem.arr T enc sz xs) ∈ M) {v : Value} (hv : ρ k = some v) : xs.length ≤ 281474976710656 ∧ ∃ a cap, v = .slice a xs.length cap ∧ xs.length ≤ cap := by
  obtain ⟨v', cells, hρ, hown, hlen, _⟩ := hm.rel k _ hk
  rw [hv] at hρ; cases hρ
  rcases hown.2 with ⟨rfl, h0⟩ | ⟨g, cap, cur, rfl, _, _, hnc, _⟩
  · have h0 : xs.length = 0 := h0
    exact ⟨hlen, none, 0, by rw [h0], by omega⟩
  · exact ⟨hlen, _, cap, rfl, hnc⟩

theorem own_valG {Keep : Nat → Prop} {M : List (Nat × Mem)} {ρ : Names} {w : World} (hm : MemOK Keep M ρ w) {k : Nat} {T : TypeId} {sz : Nat} {xs : List (List SV)}
    (hk : (k, Mem.garr T sz xs) ∈ M) {v : Value} (hv : ρ k = some v) : xs.length ≤ 281474976710656 ∧ ∃ a cap, v = .slice a xs.length cap ∧ xs.length ≤ cap := by
  obtain ⟨v', cells, hρ, hown, hlen, _⟩ := hm.rel k _ hk
  rw [hv] at hρ; cases hρ
  rcases hown.2 with ⟨rfl, h0⟩ | ⟨g, cap, cur, rfl, _, _, hnc, _⟩
  · have h0 : xs.length = 0 := h0
    exact ⟨hlen, none, 0, by rw [h0], by omega⟩
  · exact ⟨hlen, _, cap, rfl, hnc⟩

theorem ints_elim : ∀ {s : List SV} {K : IntKind → List Int → Prop}, ints s K → ∃ (k : IntKind) (x : Int) (r : List Int), K k (x :: r) ∧
    ∀ {S Pm : Nat → Prop} {ρ : Names} {w : World} {vs : List Value}, Gs S Pm ρ w s vs → ∃ us : List Value, vs = .int k x :: us ∧ us.length = r.length ∧ ∀ (j : Nat) (y : Int), r[j]? = some y → ∃ k', us[j]? = some (.int k' y)
  | [], K, h => by simp [ints] at h
  | s :: r, K, h => by
    unfold ints at h
    split at h
    · rename_i k m r' heq
      cases heq
      split at h
      · refine ⟨k, m, [], h, fun hg => ?_⟩
        obtain ⟨v, vs', rfl, h1, h2⟩ := hg.cons_inv
        exact ⟨[], by rw [h1.val_inv, h2.nil_inv], rfl, fun j y hy => by simp at hy⟩
      · obtain ⟨k2, x2, r2, hK, hg2⟩ := ints_elim h
        refine ⟨k, m, x2 :: r2, hK, fun hg => ?_⟩
        obtain ⟨v, vs', rfl, h1, h2⟩ := hg.cons_inv
        obtain ⟨us, rfl, hl, hy⟩ := hg2 h2
        refine ⟨.int k2 x2 :: us, by rw [h1.val_inv], by simp [hl], fun j y hj => ?_⟩
        cases j with
        | zero => simp at hj; subst hj; exact ⟨k2, rfl⟩
        | succ j => simpa using hy j y (by simpa using hj)
    · exact h.elim

theorem min_fold {P : Program} {w : World} {k : IntKind} : ∀ (r : List Int) (us : List Value) (x : Int), us.length = r.length → (∀ (j : Nat) (y : Int), r[j]? = some y → ∃ k', us[j]? = some (.int k' y)) →
    (us.foldlM Builtin.min2 (.int k x)).run P w = .ok (.int k (minL x r)) w
  | [], us, x, hl, _ => by
    have : us = [] := List.eq_nil_of_length_eq_zero hl
    subst this; simp [minL]
  | y :: r, us, x, hl, hy => by
    cases us with
    | nil => simp at hl
    | cons u us =>
      obtain ⟨k', hu⟩ := hy 0 y rfl
      simp at hu; subst hu
      have hmin : (if y < x then y else x) = min x y := by omega
      simp only [List.foldlM_cons, Builtin.min2, Sem.run_bind, Sem.run_pure, Result.andThen_ok, hmin, minL]
      exact min_fold r us (min x y) (by simpa using hl) (fun j z hz => by simpa using hy (j + 1) z (by simpa using hz))

theorem max_fold {P : Program} {w : World} {k : IntKind} : ∀ (r : List Int) (us : List Value) (x : Int), us.length = r.length → (∀ (j : Nat) (y : Int), r[j]? = some y → ∃ k', us[j]? = some (.int k' y)) →
    (us.foldlM Builtin.max2 (.int k x)).run P w = .ok (.int k (maxL x r)) w
  | [], us, x, hl, _ => by
    have : us = [] := List.eq_nil_of_length_eq_zero hl
    subst this; simp [maxL]
  | y :: r, us, x, hl, hy => by
    cases us with
    | nil => simp at hl
    | cons u us =>
      obtain ⟨k', hu⟩ := hy 0 y rfl
      simp at hu; subst hu
      have hmax : (if y > x then y else x) = max x y := by omega
      simp only [List.foldlM_cons, Builtin.max2, Sem.run_bind, Sem.run_pure, Result.andThen_ok, hmax, maxL]
      exact max_fold r us (max x y) (by simpa using hl) (fun j z hz => by simpa using hy (j + 1) z (by simpa using hz))

/-- What an append reads. -/
def Src (S : Nat → Prop) (w : World) {α : Type} (enc : α → List SV) (sz : Nat) (ys : List α) (v : Value) (news : List Value) : Prop :=
  news.length = ys.length * sz ∧ (∀ u ∈ news, u.oneCell' = true) ∧
  (∀ (i j : Nat) y (s : SV), ys[i]? = some y → (enc y)[j]? = some s → ∃ u, news[i * sz + j]? = some u ∧ D S w s u) ∧
  ((v = .slice none 0 0 ∧ ys = []) ∨ ∃ a c, v = .slice (some a) ys.length c ∧ ∀ (j : Nat) (u : Value), news[j]? = some u → w.cell? (a.add j) = some u)

theorem src_of_d {S : Nat → Prop} {w : World} {α : Type} {enc : α → List SV} {ys : List α} {v : Value} (hd : D S w (.sl enc ys) v) {sz : Nat} (h0 : 0 < sz) (hsz : ∀ x ∈ ys, (enc x).length = sz) :
    ∃ news, Src S w enc sz ys v news := by
  rcases hd.sl_inv with ⟨rfl, a, rfl⟩ | ⟨sz', b, o, cap, c, rfl, hb, hS, hlen, hcap, hesz, hc, he⟩
  · cases a with
    | none => exact ⟨[], by simp, by simp, fun i j y s h => by simp at h, .inl ⟨rfl, rfl⟩⟩
    | some a => exact ⟨[], by simp, by simp, fun i j y s h => by simp at h, .inr ⟨a, 0, rfl, fun j u hu => by simp at hu⟩⟩
  · have hs : ys ≠ [] → sz' = sz := fun hne => by
      obtain ⟨x, hx⟩ := List.exists_mem_of_ne_nil ys hne
      rw [← hesz x hx, ← hsz x hx]
    have hq : ∀ q, q < ys.length * sz → q / sz < ys.length ∧ q % sz < sz ∧ sz' = sz ∧ q / sz * sz + q % sz = q := fun q hq => by
      have h1 : q / sz < ys.length := (Nat.div_lt_iff_lt_mul h0).2 hq
      refine ⟨h1, Nat.mod_lt _ h0, hs (fun e => by rw [e] at h1; simp at h1), ?_⟩
      rw [Nat.mul_comm]; exact Nat.div_add_mod q sz
    refine ⟨(List.range (ys.length * sz)).map fun q => c (q / sz) (q % sz), by simp, ?_, ?_, .inr ⟨_, cap, rfl, ?_⟩⟩
    · intro u hu
      obtain ⟨q, hq', rfl⟩ := List.mem_map.1 hu
      obtain ⟨h1, h2, h3, _⟩ := hq q (List.mem_range.1 hq')
      exact (hc _ _ h1 (h3 ▸ h2)).2
    · intro i j y s hy hs'
      have hi : i < ys.length := (List.getElem?_eq_some_iff.1 hy).1
      have hj : j < sz := by
        have := (List.getElem?_eq_some_iff.1 hs').1
        rw [hsz y (List.mem_of_getElem? hy)] at this; exact this
      have hlt : i * sz + j < ys.length * sz := by
        have := Nat.mul_le_mul_right sz (Nat.succ_le_of_lt hi)
        rw [Nat.succ_mul] at this; omega
      have e1 : (i * sz + j) / sz = i := by rw [Nat.mul_comm, Nat.mul_add_div h0]; simp [Nat.div_eq_of_lt hj]
      have e2 : (i * sz + j) % sz = j := by rw [Nat.mul_comm, Nat.mul_add_mod]; exact Nat.mod_eq_of_lt hj
      refine ⟨c i j, by simp [hlt, e1, e2], he i j y s hy hs'⟩
    · intro q u hu
      have hq' : q < ys.length * sz := by have := (List.getElem?_eq_some_iff.1 hu).1; simpa using this
      obtain ⟨h1, h2, h3, h4⟩ := hq q hq'
      simp [hq'] at hu
      subst hu
      subst h3
      rw [addr_add]
      have := (hc _ _ h1 h2).1
      rw [Nat.add_assoc, h4] at this
      exact this

theorem readAs_src {lm : Nat → Option Mem} {s : SV} {α : Type} {enc : α → List SV} {ys : List α} (h : readAs lm s enc ys) {Keep : Nat → Prop} {M : List (Nat × Mem)} {ρ : Names} {w : World}
    (hlm : ∀ k m, lm k = some m → lookM M k = some m) (hm : MemOK Keep M ρ w) {v : Value} (hg : G (fun b => Keep b ∨ Own M ρ b) (Own M ρ) ρ w s v) {sz : Nat} (h0 : 0 < sz)
    (hsz : ∀ x ∈ ys, (enc x).length = sz) : ∃ news, Src (fun b => Keep b ∨ Own M ρ b) w enc sz ys v news := by
  unfold readAs at h
  split at h
  · subst h
    rw [hg.val_inv]
    exact ⟨[], by simp, by simp, fun i j y s h => by simp at h, .inl ⟨rfl, rfl⟩⟩
  · rename_i k
    simp only [view1] at h
    split at h
    · rename_i T β enc' sz' xs hlk
      cases h
      obtain ⟨hv, _⟩ := hg.own_inv
      obtain ⟨v', cells, hρ, hown, hlen, hone, hesz, hcells⟩ := hm.rel k _ (mem_lookM (hlm k _ hlk))
      rw [hv] at hρ; cases hρ
      rcases hown.2 with ⟨rfl, he⟩ | ⟨g, cap, cur, rfl, _, hheap, hnc, hcm, hcs, htake⟩
      · have : ys = [] := List.eq_nil_of_length_eq_zero he
        subst this
        exact ⟨[], by simp, by simp, fun i j y s h => by simp at h, .inl ⟨rfl, rfl⟩⟩
      · by_cases hne : ys = []
        · subst hne
          exact ⟨[], by simp, by simp, fun i j y s h => by simp at h, .inr ⟨_, cap, rfl, fun j u hu => by simp at hu⟩⟩
        · obtain ⟨x, hx⟩ := List.exists_mem_of_ne_nil ys hne
          have : sz' = sz := by rw [← hesz x hx, ← hsz x hx]
          subst this
          exact ⟨cells, hown.1, hone, hcells, .inr ⟨_, cap, rfl, fun j u hu => by rw [addr_add, Nat.zero_add]; exact own_cell hheap htake hu⟩⟩
    · cases h
  · subst h
    exact src_of_d hg.sl_inv h0 hsz

/-- An append to an owned row. -/
theorem append_run {P : Program} {t ty e : TypeId} {f : TypeInfo} {z : Value} (ht : P.underlying t = some (.slice e)) (hi : P.info? e = some f) (hz : f.zero = some z) (hzs : z.cells.size = f.size)
    {w : World} {v : Value} {n : Nat} {cells : List Value} (hown : w.ownsRow 0 e f.size v n cells) {S : Nat → Prop} {α : Type} {enc : α → List SV} {ys : List α} {vx : Value} {news : List Value}
    (hs : Src S w enc f.size ys vx news) (h63 : n + ys.length ≤ maxLen) (hbytes : (n + ys.length) * f.bytes ≤ 140737488355328) :
    ∃ v' w', (Builtin.append_ #[t, t] ty #[v, vx]).run P w = .ok v' w' ∧ w'.ownsRow 0 e f.size v' (n + ys.length) (cells ++ news) ∧ w'.os = w.os ∧ w'.tape = w.tape ∧ SameOut w w' ∧ w.heap.size ≤ w'.heap.size ∧
      (∀ b, b < w.heap.size → blkOf v ≠ some b → w'.heap[b]? = w.heap[b]?) ∧ (blkOf v' = blkOf v ∨ (blkOf v' = some w.heap.size ∧ w.heap.size < w'.heap.size)) ∧ v'.oneCell' = true := by
  obtain ⟨hl, hone, _, hv⟩ := hs
  have h63' : (n + ys.length : Int) ≤ 9223372036854775807 := by unfold maxLen at h63; omega
  have made : ∀ (old : Nat), old < n + ys.length → (w.drew.alloc (.cells (cells.toArray ++ news.toArray ++ Builtin.zeroCells z.cells (grownCap w (n + ys.length) old e - (n + ys.length))) e)).ownsRow 0 e f.size
        (.slice (some ⟨w.heap.size, 0, none⟩) (n + ys.length) (grownCap w (n + ys.length) old e)) (n + ys.length) (cells ++ news) := by
    intro old _
    have hge := grownCap_ge w (n + ys.length) old e
    have hcl := hown.1
    refine ⟨by rw [List.length_append, hcl, hl, Nat.add_mul], .inr ⟨w.heap.size, _, _, rfl, Nat.zero_le _, heap_alloc_new w.drew _, hge, grownCap_le_maxLen w _ old e h63, ?_, ?_⟩⟩
    · simp only [Array.size_append, List.size_toArray, size_zeroCells, hzs, hcl, hl, ← Nat.add_mul]
      congr 1
      omega
    · simp only [Array.toList_append]
      rw [List.take_append_of_le_length (by simp [hcl, hl, Nat.add_mul])]
      exact List.take_of_length_le (by simp [hcl, hl, Nat.add_mul])
  rcases hv with ⟨rfl, rfl⟩ | ⟨a, c, rfl, hcells⟩
  · have hn : news = [] := List.eq_nil_of_length_eq_zero (by simpa using hl)
    subst hn
    rcases hown.2 with ⟨rfl, h0⟩ | ⟨g, cap, cur, rfl, _, hheap, hnc, hcm, hcs, htake⟩
    · refine ⟨.slice none 0 0, w, ?_, ?_, rfl, rfl, .refl _, Nat.le_refl _, fun _ _ _ => rfl, .inl rfl, rfl⟩
      · simp [Builtin.append_, run_underlying ht, sizeOf, typeInfo, hi, Builtin.lenOf, Builtin.firstCells]
      · subst h0
        have hc0 : cells = [] := List.eq_nil_of_length_eq_zero (by simpa using hown.1)
        subst hc0
        exact World.ownsRow_nil w 0 e f.size
    · refine ⟨.slice (some ⟨g, 0, none⟩) n cap, w, ?_, ?_, rfl, rfl, .refl _, Nat.le_refl _, fun _ _ _ => rfl, .inl rfl, rfl⟩
      · simp [Builtin.append_, run_underlying ht, sizeOf, typeInfo, hi, Builtin.lenOf, Builtin.firstCells, hnc, storeCells]
      · simpa using hown
  · rcases hown.2 with ⟨rfl, rfl⟩ | ⟨g, cap, cur, rfl, _, hheap, hnc, hcm, hcs, htake⟩
    · have hc0 : cells = [] := List.eq_nil_of_length_eq_zero (by simpa using hown.1)
      subst hc0
      by_cases hy : ys.length = 0
      · have hn : news = [] := List.eq_nil_of_length_eq_zero (by simpa [hy] using hl)
        subst hn
        refine ⟨.slice none 0 0, w, ?_, ?_, rfl, rfl, .refl _, Nat.le_refl _, fun _ _ _ => rfl, .inl rfl, rfl⟩
        · simp [Builtin.append_, run_underlying ht, sizeOf, typeInfo, hi, Builtin.lenOf, Builtin.firstCells, hy, loadCells, loadCellsFrom]
        · rw [hy]; exact World.ownsRow_nil w 0 e f.size
      · have hr := run_append_nil (P := P) w t ty e f z ht hi hz a ys.length c news hl hcells (by omega) (by simpa using h63') (by have hb := hbytes; simp only [Nat.zero_add] at hb; omega)
        have hgr := made 0 (by omega)
        simp only [Nat.zero_add, List.nil_append, Array.empty_append] at hgr ⊢
        exact ⟨_, _, hr, hgr, rfl, rfl, .cells w.drew _ _, by simp, fun b hb _ => heap_alloc_old w.drew _ b hb, .inr ⟨rfl, by simp⟩, rfl⟩
    · have hcl := hown.1
      by_cases hroom : n + ys.length ≤ cap
      · have hfit : n * f.size + news.length ≤ cur.size := by rw [hl, hcs, ← Nat.add_mul]; exact Nat.mul_le_mul_right _ hroom
        have hr := run_append_room (P := P) w t ty e f ht hi g n cap cur hheap a ys.length c news hl hcells hone hroom hfit
        refine ⟨_, _, hr, ⟨by rw [List.length_append, hcl, hl, Nat.add_mul], .inr ⟨g, cap, _, rfl, Nat.zero_le _, setRow_heap w g cur _ e _ hheap, hroom, hcm, ?_, ?_⟩⟩, rfl, rfl, .setRow _ _ _, by simp,
          fun b _ hne => setRow_other w g b _ (fun e => hne (by simp [blkOf, e])), .inl rfl, rfl⟩
        · simp only [List.size_toArray, List.length_append, List.length_take, List.length_drop, Array.length_toList]
          omega
        · rw [htake, Nat.add_mul, ← hl, ← hcl]
          rw [List.take_append_of_le_length (by simp)]
          exact List.take_of_length_le (by simp)
      · have holds : ∀ (j : Nat) (u : Value), cells[j]? = some u → w.cell? ((⟨g, 0, none⟩ : Addr).add j) = some u := fun j u hu => by rw [addr_add, Nat.zero_add]; exact own_cell hheap htake hu
        have hr := run_append_grow (P := P) w t ty e f z ht hi hz ⟨g, 0, none⟩ n cap cells hcl holds a ys.length c news hl hcells (by omega) (by push_cast; exact h63') (growslice_fits (by omega) hbytes)
        exact ⟨_, _, hr, made cap (by omega), rfl, rfl, .cells w.drew _ _, by simp, fun b hb _ => heap_alloc_old w.drew _ b hb, .inr ⟨rfl, by simp⟩, rfl⟩

/-- An append to a slice without room. -/
theorem append_nils {P : Program} {t ty e : TypeId} {f : TypeInfo} {z : Value} (ht : P.underlying t = some (.slice e)) (hi : P.info? e = some f) (hz : f.zero = some z) (hzs : z.cells.size = f.size)
    {w : World} (ad : Option Addr) {S : Nat → Prop} {α : Type} {enc : α → List SV} {ys : List α} {vx : Value} {news : List Value}
    (hs : Src S w enc f.size ys vx news) (hne : ys ≠ []) (h63 : ys.length ≤ maxLen) (hbytes : ys.length * f.bytes ≤ 140737488355328) :
    ∃ v' w', (Builtin.append_ #[t, t] ty #[.slice ad 0 0, vx]).run P w = .ok v' w' ∧ w'.ownsRow 0 e f.size v' ys.length news ∧ w'.os = w.os ∧ w'.tape = w.tape ∧ SameOut w w' ∧ w.heap.size ≤ w'.heap.size ∧
      (∀ b, b < w.heap.size → w'.heap[b]? = w.heap[b]?) ∧ (blkOf v' = some w.heap.size ∧ w.heap.size < w'.heap.size) ∧ v'.oneCell' = true := by
  obtain ⟨hl, hone, _, hv⟩ := hs
  have h63' : (ys.length : Int) ≤ 9223372036854775807 := by unfold maxLen at h63; omega
  have hpos : 0 < ys.length := List.length_pos_iff.2 hne
  have made : (w.drew.alloc (.cells (news.toArray ++ Builtin.zeroCells z.cells (grownCap w ys.length 0 e - ys.length)) e)).ownsRow 0 e f.size
        (.slice (some ⟨w.heap.size, 0, none⟩) ys.length (grownCap w ys.length 0 e)) ys.length news := by
    have hge := grownCap_ge w ys.length 0 e
    refine ⟨hl, .inr ⟨w.heap.size, _, _, rfl, Nat.zero_le _, heap_alloc_new w.drew _, hge, grownCap_le_maxLen w _ 0 e h63, ?_, ?_⟩⟩
    · simp only [Array.size_append, List.size_toArray, size_zeroCells, hzs, hl, ← Nat.add_mul]
      congr 1
      omega
    · simp only [Array.toList_append]
      rw [List.take_append_of_le_length (by simp [hl])]
      exact List.take_of_length_le (by simp [hl])
  rcases hv with ⟨_, rfl⟩ | ⟨a, c, rfl, hcells⟩
  · exact absurd rfl hne
  · cases ad with
    | none =>
      have hr := run_append_nil (P := P) w t ty e f z ht hi hz a ys.length c news hl hcells (by omega) h63' (by omega)
      exact ⟨_, _, hr, made, rfl, rfl, .cells w.drew _ _, by simp, fun b hb => heap_alloc_old w.drew _ b hb, ⟨rfl, by simp⟩, rfl⟩
    | some g =>
      have hr := run_append_grow (P := P) w t ty e f z ht hi hz g 0 0 [] (by simp) (fun j u hu => by simp at hu) a ys.length c news hl hcells (by omega) (by simpa using h63') (growslice_fits (by omega) (by simpa using hbytes))
      simp only [Nat.zero_add, Array.empty_append] at hr
      exact ⟨_, _, hr, made, rfl, rfl, .cells w.drew _ _, by simp, fun b hb => heap_alloc_old w.drew _ b hb, ⟨rfl, by simp⟩, rfl⟩

/-- Behind a slice of data whose capacity is its length. -/
theorem append_full {P : Program} {t ty e : TypeId} {f : TypeInfo} {z : Value} (ht : P.underlying t = some (.slice e)) (hi : P.info? e = some f) (hz : f.zero = some z) (hzs : z.cells.size = f.size)
    {w : World} (ad : Option Addr) {S : Nat → Prop} {α : Type} {enc : α → List SV} {xs ys : List α} {vx : Value} {olds news : List Value}
    (ho : Src S w enc f.size xs (.slice ad xs.length xs.length) olds) (hs : Src S w enc f.size ys vx news) (hne : ys ≠ []) (h63 : xs.length + ys.length ≤ maxLen) (hbytes : (xs.length + ys.length) * f.bytes ≤ 140737488355328) :
    ∃ v' w', (Builtin.append_ #[t, t] ty #[.slice ad xs.length xs.length, vx]).run P w = .ok v' w' ∧ w'.ownsRow 0 e f.size v' (xs.length + ys.length) (olds ++ news) ∧ w'.os = w.os ∧ w'.tape = w.tape ∧ SameOut w w' ∧ w.heap.size ≤ w'.heap.size ∧
      (∀ b, b < w.heap.size → w'.heap[b]? = w.heap[b]?) ∧ (blkOf v' = some w.heap.size ∧ w.heap.size < w'.heap.size) ∧ v'.oneCell' = true := by
  obtain ⟨hl, hone, _, hv⟩ := hs
  obtain ⟨hol, _, _, hov⟩ := ho
  have h63' : (xs.length + ys.length : Int) ≤ 9223372036854775807 := by unfold maxLen at h63; omega
  have hpos : 0 < ys.length := List.length_pos_iff.2 hne
  have made : ∀ old : Nat, (w.drew.alloc (.cells (olds.toArray ++ news.toArray ++ Builtin.zeroCells z.cells (grownCap w (xs.length + ys.length) old e - (xs.length + ys.length))) e)).ownsRow 0 e f.size
        (.slice (some ⟨w.heap.size, 0, none⟩) (xs.length + ys.length) (grownCap w (xs.length + ys.length) old e)) (xs.length + ys.length) (olds ++ news) := by
    intro old
    have hge := grownCap_ge w (xs.length + ys.length) old e
    refine ⟨by rw [List.length_append, hol, hl, Nat.add_mul], .inr ⟨w.heap.size, _, _, rfl, Nat.zero_le _, heap_alloc_new w.drew _, hge, grownCap_le_maxLen w _ old e h63, ?_, ?_⟩⟩
    · simp only [Array.size_append, List.size_toArray, size_zeroCells, hzs, hol, hl, ← Nat.add_mul]
      congr 1
      omega
    · simp only [Array.toList_append]
      rw [List.take_append_of_le_length (by simp [hol, hl, Nat.add_mul])]
      exact List.take_of_length_le (by simp [hol, hl, Nat.add_mul])
  rcases hv with ⟨_, rfl⟩ | ⟨a, c, rfl, hcells⟩
  · exact absurd rfl hne
  · cases ad with
    | none =>
      have hx0 : xs = [] := by
        rcases hov with ⟨_, h⟩ | ⟨_, _, h, _⟩
        · exact h
        · cases h
      subst hx0
      have ho0 : olds = [] := List.eq_nil_of_length_eq_zero (by simpa using hol)
      subst ho0
      have hr := run_append_nil (P := P) w t ty e f z ht hi hz a ys.length c news hl hcells (by omega) (by simpa using h63') (by simp only [List.length_nil, Nat.zero_add] at hbytes; omega)
      have := made 0
      simp only [List.length_nil, Nat.zero_add, List.nil_append] at this
      refine ⟨_, _, hr, ?_, rfl, rfl, .cells w.drew _ _, by simp, fun b hb => heap_alloc_old w.drew _ b hb, ⟨rfl, by simp⟩, rfl⟩
      simpa using this
    | some g =>
      have hcell : ∀ (j : Nat) (u : Value), olds[j]? = some u → w.cell? (g.add j) = some u := by
        rcases hov with ⟨h, _⟩ | ⟨a', c', h, hc⟩
        · cases h
        · cases h; exact hc
      have hr := run_append_grow (P := P) w t ty e f z ht hi hz g xs.length xs.length olds (by simp [hol]) hcell a ys.length c news hl hcells (by omega) (by simpa using h63') (growslice_fits (by omega) (by simpa using hbytes))
      exact ⟨_, _, hr, made _, rfl, rfl, .cells w.drew _ _, by simp, fun b hb => heap_alloc_old w.drew _ b hb, ⟨rfl, by simp⟩, rfl⟩

theorem copy_run {P : Program} {t t' ty e : TypeId} {f : TypeInfo} (ht : P.underlying t = some (.slice e)) (hi : P.info? e = some f) {w : World} {g o n cap' : Nat} {T : TypeId} {cur : Array Value}
    (hg : w.heap[g]? = some (.cells cur T (0, 0))) {S : Nat → Prop} {α : Type} {enc : α → List SV} {ys : List α} {vx : Value} {news : List Value} (hs : Src S w enc f.size ys vx news) (hfit : o + min ys.length n * f.size ≤ cur.size) :
    (Builtin.copy_ #[t, t'] ty #[.slice (some ⟨g, o, none⟩) n cap', vx]).run P w = .ok (.int .i64 (min ys.length n : Nat))
      (w.setRow g (cur.toList.take o ++ news.take (min ys.length n * f.size) ++ cur.toList.drop (o + min ys.length n * f.size)).toArray) := by
  obtain ⟨hl, hone, _, hv⟩ := hs
  rcases hv with ⟨rfl, rfl⟩ | ⟨a, c, rfl, hcells⟩
  · have hn : news = [] := List.eq_nil_of_length_eq_zero (by simpa using hl)
    subst hn
    have hsr := setRow_self w g cur T (0, 0) hg
    simp [Builtin.copy_, run_underlying ht, Builtin.lenOf, Builtin.firstCells, sizeOf, typeInfo, hi, storeCells, goInt, hsr]
  · have hcl : (news.take (min ys.length n * f.size)).length = min ys.length n * f.size := by
      rw [List.length_take, hl]
      exact Nat.min_eq_left (Nat.mul_le_mul_right _ (Nat.min_le_left _ _))
    have hld := run_loadCells_list (P := P) w a (news.take (min ys.length n * f.size)) (fun j u hu => hcells j u (by
      rw [List.getElem?_take] at hu
      split at hu
      · exact hu
      · cases hu))
    rw [hcl] at hld
    have hst := run_storeCells_at P g o T (news.take (min ys.length n * f.size)) 0 cur w hg (by rw [hcl]; simpa using hfit) (fun u hu => hone u (List.mem_of_mem_take hu))
    simp only [hcl, Nat.add_zero] at hst
    have e1 : Nat.min ys.length n = min ys.length n := rfl
    simp [Builtin.copy_, run_underlying ht, Builtin.lenOf, Builtin.firstCells, sizeOf, typeInfo, hi, e1, hld, hst, goInt]

theorem setM_same : ∀ {M : List (Nat × Mem)} {k : Nat} {m : Mem}, lookM M k = some m → setM M k m = M
  | [], _, _, h => by simp [lookM] at h
  | (k', m') :: r, k, m, h => by
    simp only [lookM] at h
    simp only [setM]
    split at h
    · cases h; rfl
    · rw [setM_same h]

theorem copy_row {P : Program} {t t' e : TypeId} {f : TypeInfo} (hk : P.underlying t = some (.slice e)) (hi : P.info? e = some f)
    {Keep : Nat → Prop} {M : List (Nat × Mem)} {ρ : Names} {w : World} (hm : MemOK Keep M ρ w) {k : Nat} {T : TypeId} {α : Type} {enc : α → List SV} {sz : Nat} {xs : List α} (hmem : (k, Mem.arr T enc sz xs) ∈ M) (h2 : f.size = sz)
    {b len cap cap' lo n κ : Nat} (hρ : ρ k = some (.slice (some ⟨b, 0, none⟩) len cap)) (hln : lo + n ≤ xs.length) {ys : List α} {vx : Value} {news : List Value}
    (hs : Src (fun b => Keep b ∨ Own M ρ b) w enc sz ys vx news) (hysz : ∀ y ∈ ys, (enc y).length = sz) {o : Oper} {a : Act}
    (hr : ∀ v w', (Builtin.copy_ #[t, t'] o.type #[.slice (some ⟨b, lo * sz, none⟩) n cap', vx]).run P w = .ok v w' → (execOp a.eval o).run P w = .ok (.value v) w') :
    Does P o a w (After Keep M ρ w κ (.val (.int .i64 (min ys.length n : Nat))) (.set k (.arr T enc sz (xs.take lo ++ (ys.take n ++ xs.drop (lo + min ys.length n)))))) := by
  obtain ⟨v0, cells, hρ', hown, hnl, hone0, hesz, hcells⟩ := hm.rel k _ hmem
  rw [hρ] at hρ'; cases hρ'
  obtain ⟨hlen', cur, hheap, hnc, hcm, hcs, htake⟩ := own_row rfl hown
  have hcellslen : cells.length = xs.length * sz := hown.1
  have hml : min ys.length n ≤ n := Nat.min_le_right _ _
  have hmy : min ys.length n ≤ ys.length := Nat.min_le_left _ _
  have htk : ys.take n = ys.take (min ys.length n) := by
    rcases Nat.le_total ys.length n with h | h
    · rw [Nat.min_eq_left h, List.take_of_length_le h, List.take_of_length_le (Nat.le_refl _)]
    · rw [Nat.min_eq_right h]
  rw [htk]
  have hcurlen : xs.length * sz ≤ cur.toList.length := by simp [hcs]; exact Nat.mul_le_mul_right _ hnc
  generalize hmm : min ys.length n = m at *
  have hfit : (lo + m) * sz ≤ xs.length * sz := Nat.mul_le_mul_right _ (by omega)
  have hadd : (lo + m) * sz = lo * sz + m * sz := Nat.add_mul _ _ _
  have hrun := copy_run (P := P) (t := t) (t' := t') (ty := o.type) (o := lo * sz) (n := n) (cap' := cap') hk hi hheap (h2 ▸ hs) (by rw [hmm, h2]; simp at hcurlen; omega)
  rw [hmm, h2] at hrun
  have hnews : (news.take (m * sz)).length = m * sz := by
    rw [List.length_take, hs.1]
    exact Nat.min_eq_left (Nat.mul_le_mul_right _ hmy)
  refine Does.value (hr _ _ hrun) ?_
  refine After.set (hm.write _ hmem hρ rfl _ fun hst => ?_) (.d _ _ (.val _))
  have hxl : (xs.take lo ++ (ys.take m ++ xs.drop (lo + m))).length = xs.length := by simp only [List.length_append, List.length_take, List.length_drop]; omega
  refine ⟨_, cells.take (lo * sz) ++ news.take (m * sz) ++ cells.drop (lo * sz + m * sz), hρ, ⟨?_, .inr ⟨b, cap, _, by rw [hxl, hlen'], Nat.zero_le _, setRow_heap w b _ _ T _ hheap, by rw [hxl]; exact hnc, hcm, ?_, ?_⟩⟩, by rw [hxl]; exact hnl, ?_, ?_, ?_⟩
  · rw [hxl]
    simp only [List.length_append, List.length_take, List.length_drop, hcellslen, hs.1]
    have := Nat.mul_le_mul_right sz hmy
    omega
  · simp only [List.size_toArray, List.length_append, hnews, List.length_take, List.length_drop, Array.length_toList, hcs]
    simp [hcs] at hcurlen; omega
  · rw [hxl, ← htake]
    have := take_splice cur.toList (news.take (m * sz)) (lo * sz) (xs.length * sz) (by rw [hnews]; omega) hcurlen
    rw [hnews] at this
    exact this
  · intro u hu
    simp only [List.mem_append] at hu
    rcases hu with (hu | hu) | hu
    · exact hone0 u (List.mem_of_mem_take hu)
    · exact hs.2.1 u (List.mem_of_mem_take hu)
    · exact hone0 u (List.mem_of_mem_drop hu)
  · intro z hz
    simp only [List.mem_append] at hz
    rcases hz with hz | hz | hz
    · exact hesz z (List.mem_of_mem_take hz)
    · exact hysz z (List.mem_of_mem_take hz)
    · exact hesz z (List.mem_of_mem_drop hz)
  · intro i j x s hxi hs'
    have hln1 : (cells.take (lo * sz)).length = lo * sz := by rw [List.length_take, hcellslen]; omega
    have hlx : (xs.take lo).length = lo := by rw [List.length_take]; omega
    have hly : (ys.take m).length = m := by rw [List.length_take]; omega
    have hjs : j < sz := by
      have hx : x ∈ xs.take lo ++ (ys.take m ++ xs.drop (lo + m)) := List.mem_of_getElem? hxi
      have := (List.getElem?_eq_some_iff.1 hs').1
      simp only [List.mem_append] at hx
      rcases hx with hz | hz | hz
      · rwa [hesz x (List.mem_of_mem_take hz)] at this
      · rwa [hysz x (List.mem_of_mem_take hz)] at this
      · rwa [hesz x (List.mem_of_mem_drop hz)] at this
    by_cases hi1 : i < lo
    · rw [List.getElem?_append_left (by omega), List.getElem?_take, if_pos hi1] at hxi
      obtain ⟨u, hu, hd⟩ := hcells i j x s hxi hs'
      refine ⟨u, ?_, hd.stp hst⟩
      have h5 : i * sz + sz ≤ lo * sz := by
        have := Nat.mul_le_mul_right sz (Nat.succ_le_of_lt hi1)
        rw [Nat.succ_mul] at this; exact this
      rw [List.append_assoc, List.getElem?_append_left (by omega), List.getElem?_take, if_pos (by omega)]
      exact hu
    · rw [List.getElem?_append_right (by omega), hlx] at hxi
      have h6 : lo * sz ≤ i * sz := Nat.mul_le_mul_right _ (by omega)
      by_cases hi2 : i - lo < m
      · rw [List.getElem?_append_left (by omega), List.getElem?_take, if_pos hi2] at hxi
        obtain ⟨u, hu, hd⟩ := hs.2.2.1 (i - lo) j x s hxi hs'
        refine ⟨u, ?_, hd.stp hst⟩
        have h5 : (i - lo) * sz + sz ≤ m * sz := by
          have := Nat.mul_le_mul_right sz (Nat.succ_le_of_lt hi2)
          rw [Nat.succ_mul] at this; exact this
        have h7 : (i - lo) * sz = i * sz - lo * sz := Nat.sub_mul _ _ _
        rw [List.append_assoc, List.getElem?_append_right (by omega), hln1, List.getElem?_append_left (by omega), List.getElem?_take, if_pos (by omega), ← hu]
        congr 1; omega
      · rw [List.getElem?_append_right (by omega), hly, List.getElem?_drop] at hxi
        rw [show lo + m + (i - lo - m) = i by omega] at hxi
        obtain ⟨u, hu, hd⟩ := hcells i j x s hxi hs'
        refine ⟨u, ?_, hd.stp hst⟩
        have h7 : (lo + m) * sz ≤ i * sz := Nat.mul_le_mul_right _ (by omega)
        rw [List.append_assoc, List.getElem?_append_right (by omega), hln1, List.getElem?_append_right (by omega), hnews, List.getElem?_drop, ← hu]
        congr 1; omega

theorem builtin_sound {P : Program} {Γ : List (TypeId × TI)} (hT : TOK P Γ) {c : Call} {b : Builtin} (hb : c.callee = .builtin b) {svs : List SV} {lm : Nat → Option Mem} {κ : Nat} {K : SV → MD → Prop}
    (hlive : Live lm svs) (h : builtinV Γ b c.argTypes.toList svs lm κ K) : ∃ r md, K r md ∧ OpOK P (.call c) svs lm κ r md := by
  obtain ⟨Keep0, M0, ρ0, w0, vs0, hlm0, hm0, hg0⟩ := hlive
  unfold builtinV at h
  split at h
  · rename_i s
    split at h
    · rename_i t htys
      have htys := types_one htys
      replace h := withT_elim h; obtain ⟨i, hi, h⟩ := h
      have hk := (hT t i hi).kind
      split at h
      · rename_i e hkind
        rw [hkind] at hk
        have hk : P.underlying t = some (.slice e) := hk
        unfold lenOf at h
        split at h
        · rename_i α enc xs
          obtain ⟨v0, vs0', rfl, g0, _⟩ := hg0.cons_inv
          refine ⟨_, _, h (sl_val g0).1, .pure fun o ho S Pm ρ a w hgs => ?_⟩
          have hgs := gs_args hb hgs
          obtain ⟨v, vs', hvs, g, gr⟩ := hgs.cons_inv
          obtain ⟨_, ad, cap, hv, _⟩ := sl_val g
          obtain ⟨cs, hr⟩ := run_builtin (P := P) (w := w) ho hb hvs
          refine ⟨_, ?_, (Good.val _).g⟩
          rw [hr, gr.nil_inv, hv, htys]
          simp only [builtin, Sem.run_bind, len_run hk w ad _ cap, Result.andThen_ok, Sem.run_pure]
        · rename_i k
          split at h
          · rename_i T α enc sz xs hlk
            obtain ⟨v0, vs0', rfl, g0, _⟩ := hg0.cons_inv
            refine ⟨_, _, h (own_val hm0 (mem_lookM (hlm0 k _ hlk)) g0.own_inv.1).1, .read fun o ho Keep M ρ a w hlm hm hgs => ?_⟩
            have hgs := gs_args hb hgs
            obtain ⟨v, vs', hvs, g, gr⟩ := hgs.cons_inv
            obtain ⟨_, ad, cap, hv, _⟩ := own_val hm (hlm k _ hlk) g.own_inv.1
            obtain ⟨cs, hr⟩ := run_builtin (P := P) (w := w) ho hb hvs
            refine ⟨_, ?_, (Good.val _).g⟩
            rw [hr, gr.nil_inv, hv, htys]
            simp only [builtin, Sem.run_bind, len_run hk w ad _ cap, Result.andThen_ok, Sem.run_pure]
          · rename_i T sz xs hlk
            obtain ⟨v0, vs0', rfl, g0, _⟩ := hg0.cons_inv
            refine ⟨_, _, h (own_valG hm0 (mem_lookM (hlm0 k _ hlk)) g0.own_inv.1).1, .read fun o ho Keep M ρ a w hlm hm hgs => ?_⟩
            have hgs := gs_args hb hgs
            obtain ⟨v, vs', hvs, g, gr⟩ := hgs.cons_inv
            obtain ⟨_, ad, cap, hv, _⟩ := own_valG hm (hlm k _ hlk) g.own_inv.1
            obtain ⟨cs, hr⟩ := run_builtin (P := P) (w := w) ho hb hvs
            refine ⟨_, ?_, (Good.val _).g⟩
            rw [hr, gr.nil_inv, hv, htys]
            simp only [builtin, Sem.run_bind, len_run hk w ad _ cap, Result.andThen_ok, Sem.run_pure]
          · exact h.elim
        · refine ⟨_, _, h, .pure fun o ho S Pm ρ a w hgs => ?_⟩
          have hgs := gs_args hb hgs
          obtain ⟨v, vs', hvs, g, gr⟩ := hgs.cons_inv
          obtain ⟨cs, hr⟩ := run_builtin (P := P) (w := w) ho hb hvs
          refine ⟨_, ?_, (Good.val _).g⟩
          rw [hr, gr.nil_inv, g.val_inv, htys]
          simp only [builtin, Sem.run_bind, len_run hk w none 0 0, Result.andThen_ok, Sem.run_pure]
          rfl
        · refine ⟨_, _, h, .pure fun o ho S Pm ρ a w hgs => ?_⟩
          have hgs := gs_args hb hgs
          obtain ⟨v, vs', hvs, g, gr⟩ := hgs.cons_inv
          obtain ⟨cs, hr⟩ := run_builtin (P := P) (w := w) ho hb hvs
          obtain ⟨ad, hv⟩ := g.nils_inv
          refine ⟨_, ?_, (Good.val _).g⟩
          rw [hr, gr.nil_inv, hv, htys]
          simp only [builtin, Sem.run_bind, len_run hk w ad 0 0, Result.andThen_ok, Sem.run_pure]
          rfl
        · rename_i k sz lo n
          obtain ⟨h0, h⟩ := h
          refine ⟨_, _, h, .pure fun o ho S Pm ρ a w hgs => ?_⟩
          have hgs := gs_args hb hgs
          obtain ⟨v, vs', hvs, g, gr⟩ := hgs.cons_inv
          obtain ⟨cs, hr⟩ := run_builtin (P := P) (w := w) ho hb hvs
          obtain ⟨b, len, cap, cap', _, hv, _⟩ := g.win_inv
          refine ⟨_, ?_, (Good.val _).g⟩
          rw [hr, gr.nil_inv, hv, htys]
          simp only [builtin, Sem.run_bind, len_run hk w (some ⟨b, lo.toNat * sz, none⟩) n.toNat cap', Result.andThen_ok, Sem.run_pure]
          rw [Int.toNat_of_nonneg h0]
        · exact h.elim
      · exact h.elim
    · exact h.elim
  · rename_i s
    split at h
    · rename_i t htys
      have htys := types_one htys
      replace h := withT_elim h; obtain ⟨i, hi, h⟩ := h
      have hk := (hT t i hi).kind
      split at h
      · rename_i e hkind
        rw [hkind] at hk
        have hk : P.underlying t = some (.slice e) := hk
        split at h
        · refine ⟨_, _, h, .pure fun o ho S Pm ρ a w hgs => ?_⟩
          have hgs := gs_args hb hgs
          obtain ⟨v, vs', hvs, g, gr⟩ := hgs.cons_inv
          obtain ⟨cs, hr⟩ := run_builtin (P := P) (w := w) ho hb hvs
          refine ⟨_, ?_, (Good.val _).g⟩
          rw [hr, gr.nil_inv, g.val_inv, htys]
          simp only [builtin, Sem.run_bind, cap_run hk w none 0 0, Result.andThen_ok, Sem.run_pure]
          rfl
        · refine ⟨_, _, h, .pure fun o ho S Pm ρ a w hgs => ?_⟩
          have hgs := gs_args hb hgs
          obtain ⟨v, vs', hvs, g, gr⟩ := hgs.cons_inv
          obtain ⟨cs, hr⟩ := run_builtin (P := P) (w := w) ho hb hvs
          obtain ⟨ad, hv⟩ := g.nils_inv
          refine ⟨_, ?_, (Good.val _).g⟩
          rw [hr, gr.nil_inv, hv, htys]
          simp only [builtin, Sem.run_bind, cap_run hk w ad 0 0, Result.andThen_ok, Sem.run_pure]
          rfl
        · exact h.elim
      · exact h.elim
    · exact h.elim
  · rename_i s _
    obtain ⟨k, x, r, hK, he⟩ := ints_elim h
    refine ⟨_, _, hK, .pure fun o ho S Pm ρ a w hgs => ?_⟩
    have hgs := gs_args hb hgs
    obtain ⟨us, hvs, hl, hy⟩ := he hgs
    obtain ⟨cs, hr⟩ := run_builtin (P := P) (w := w) ho hb hvs
    refine ⟨_, ?_, (Good.val _).g⟩
    rw [hr]
    simp only [builtin, Builtin.min_, Sem.run_bind, min_fold r us x hl hy, Result.andThen_ok, Sem.run_pure]
  · rename_i s _
    obtain ⟨k, x, r, hK, he⟩ := ints_elim h
    refine ⟨_, _, hK, .pure fun o ho S Pm ρ a w hgs => ?_⟩
    have hgs := gs_args hb hgs
    obtain ⟨us, hvs, hl, hy⟩ := he hgs
    obtain ⟨cs, hr⟩ := run_builtin (P := P) (w := w) ho hb hvs
    refine ⟨_, ?_, (Good.val _).g⟩
    rw [hr]
    simp only [builtin, Builtin.max_, Sem.run_bind, max_fold r us x hl hy, Result.andThen_ok, Sem.run_pure]
  · rename_i s x
    split at h
    · rename_i kx n
      unfold appendZ at h
      split at h
      · rename_i t t' htys
        have htys := types_two htys
        replace h := withT_elim h; obtain ⟨i, hi, h⟩ := h
        replace h := withT_elim h; obtain ⟨i', hi', h⟩ := h
        have hk := (hT t i hi).kind
        have hk' := (hT t' i' hi').kind
        split at h
        · rename_i e kn hkind hkind'
          rw [hkind] at hk
          rw [hkind'] at hk'
          have hk : P.underlying t = some (.slice e) := hk
          have hk' : P.underlying t' = some (.int kn) := hk'
          replace h := withT_elim h; obtain ⟨j, hj, h⟩ := h
          obtain ⟨f, h1, h2, h3, z, h4, h5, h6, h7, h8⟩ := (hT e j hj).inf
          have hzl : z.cells = j.zero.toArray := by rw [← h5]
          have hzs : z.cells.size = f.size := by rw [h2, ← h7, ← h5]; simp
          obtain ⟨α, enc, x0, hz, h⟩ := h
          obtain ⟨e0, e1, e2, e3⟩ := h.ob
          refine ⟨_, _, h.go, fun o ho Keep M ρ a w hlm hm hκ hκM hgs => ?_⟩
          replace hκ := hκ _ (Nat.le_refl _) (Nat.lt_succ_self _); replace hκM := hκM rfl
          have hgs := gs_args hb hgs
          obtain ⟨v, vs', hvs, g, gr⟩ := hgs.cons_inv
          obtain ⟨vx, vs'', hvs', gx, gn⟩ := gr.cons_inv
          subst hvs'
          have hn := gn.nil_inv
          subst hn
          obtain ⟨cs, hr⟩ := run_builtin (P := P) (w := w) ho hb hvs
          rw [g.val_inv, gx.val_inv] at hr
          obtain ⟨N, hN⟩ : ∃ N : Nat, n = N := ⟨n.toNat, by omega⟩
          subst hN
          have hbytes : N * f.bytes ≤ 140737488355328 := by rw [h3]; exact Int.ofNat_le.1 (by rw [Int.natCast_mul]; exact e2)
          have hrun := Lib.run_append_nil_zeros (P := P) w t t' o.type e f z kx kn hk hk' h1 h4 N (by omega) (by omega) (by omega) (by omega)
          refine Does.value (by rw [hr, htys]; simp only [builtin, Sem.run_bind, hrun, Result.andThen_ok, Sem.run_pure]; rfl) ?_
          have hge := grownCap_ge w N 0 e
          have hmg : ∀ q, (Builtin.zeroCells z.cells N).toList[q]? = if q < N * j.sz then j.zero[q % j.sz]? else none := fun q => by
            have := made_get j.zero N q
            rw [h7] at this
            rw [← this, hzl]
            unfold madeCells Builtin.zeroCells
            simp [h7]
          refine After.push (u := .slice (some ⟨w.heap.size, 0, none⟩) N (grownCap w N 0 e)) (hm.grow (fun _ h => h) hm.keys hκ hκM _ _ _ rfl rfl (.cells w.drew _ _) (by simp) (fun b hb _ => heap_alloc_old w.drew _ b hb)
            (fun k m v b g1 g2 g3 => heap_alloc_old w.drew _ b (hm.old b ⟨k, m, v, g1, g2, g3⟩).1) ?_ ?_) (.own _ _ upd_same rfl)
          · intro b hb
            have hb : b = w.heap.size := by simp [blkOf] at hb; exact hb.symm
            subst hb
            exact ⟨.inr (Nat.le_refl _), by simp, fun k m v1 g1 g2 g3 => by have := (hm.old _ ⟨k, m, v1, g1, g2, g3⟩).1; omega⟩
          · intro hs
            refine ⟨_, (Builtin.zeroCells z.cells N).toList, upd_same, ⟨by rw [Array.length_toList, size_zeroCells, hzs, h2, List.length_replicate, Int.toNat_natCast], .inr ⟨w.heap.size, grownCap w N 0 e, _, by rw [List.length_replicate, Int.toNat_natCast], Nat.zero_le _, heap_alloc_new w.drew _, by simpa using hge, grownCap_le_maxLen w _ 0 e (by unfold maxLen; omega), ?_, ?_⟩⟩, by simp; omega,
              fun u hu => ?_, fun x hx => by rw [List.eq_of_mem_replicate hx, hz]; simp [vals, h7], fun p q x s hx hs' => ?_⟩
            · simp only [Array.size_append, size_zeroCells, hzs, h2, ← Nat.add_mul]
              congr 1
              omega
            · simp only [Array.toList_append, List.length_replicate, Int.toNat_natCast]
              rw [List.take_append_of_le_length (by simp [size_zeroCells, hzs, h2])]
              exact List.take_of_length_le (by simp [size_zeroCells, hzs, h2])
            · obtain ⟨q, hq, rfl⟩ := List.mem_iff_getElem.1 hu
              have := hmg q
              rw [List.getElem?_eq_getElem hq] at this
              split at this
              · exact h8 _ (List.mem_of_getElem? this.symm)
              · cases this
            · have hxm := List.eq_of_mem_replicate (List.mem_of_getElem? hx)
              subst hxm
              have hp : p < N := by simpa using (List.getElem?_eq_some_iff.1 hx).1
              have hqj : q < j.sz := by
                have := (List.getElem?_eq_some_iff.1 hs').1
                rw [hz] at this; simpa [vals, h7] using this
              have h9 : p * j.sz + j.sz ≤ N * j.sz := by
                have := Nat.mul_le_mul_right j.sz (show p + 1 ≤ N by omega)
                rw [Nat.succ_mul] at this; exact this
              have hmod : (p * j.sz + q) % j.sz = q := by rw [Nat.mul_comm, Nat.mul_add_mod]; exact Nat.mod_eq_of_lt hqj
              rw [hmg, if_pos (by omega), hmod]
              rw [hz] at hs'
              simp only [vals, List.getElem?_map] at hs'
              cases hu : j.zero[q]? with
              | none => simp [hu] at hs'
              | some u =>
                simp [hu] at hs'
                subst hs'
                exact ⟨u, rfl, .val u⟩
        · exact h.elim
      · exact h.elim
    unfold appendV at h
    split at h
    · rename_i t t' htys
      have htys := types_two htys
      replace h := guardB_elim h; obtain ⟨hteq, h⟩ := h
      have hteq := Nat.eq_of_beq_eq_true hteq
      subst hteq
      replace h := withT_elim h; obtain ⟨i, hi, h⟩ := h
      have hk := (hT t i hi).kind
      split at h
      · rename_i e hkind
        rw [hkind] at hk
        have hk : P.underlying t = some (.slice e) := hk
        replace h := withT_elim h; obtain ⟨j, hj, h⟩ := h
        obtain ⟨f, h1, h2, h3, z, h4, h5, h6, h7, h8⟩ := (hT e j hj).inf
        have hzs : z.cells.size = f.size := by rw [h2, ← h7, ← h5]; simp
        split at h
        · obtain ⟨α, enc, ys, hra, h⟩ := h
          obtain ⟨e1, e2, e3, e4⟩ := h.ob
          refine ⟨_, _, h.go, fun o ho Keep M ρ a w hlm hm hκ hκM hgs => ?_⟩
          replace hκ := hκ _ (Nat.le_refl _) (Nat.lt_succ_self _); replace hκM := hκM rfl
          have hgs := gs_args hb hgs
          obtain ⟨v, vs', hvs, g, gr⟩ := hgs.cons_inv
          obtain ⟨vx, vs'', hvs', gx, gn⟩ := gr.cons_inv
          subst hvs'
          have hn := gn.nil_inv
          subst hn
          obtain ⟨news, hsrc⟩ := readAs_src hra hlm hm gx e3 e4
          obtain ⟨cs, hr⟩ := run_builtin (P := P) (w := w) ho hb hvs
          rw [g.val_inv] at hr
          have hb' : (0 + ys.length) * f.bytes ≤ 140737488355328 := by rw [h3, Nat.zero_add]; omega
          obtain ⟨v', w', hrun, hown, q1, q2, q3, q4, q5, q6, q7⟩ := append_run (ty := o.type) hk h1 h4 hzs (World.ownsRow_nil w 0 e f.size) (h2 ▸ hsrc) (by unfold maxLen; omega) hb'
          refine Does.value (v := v') (w' := w') (by rw [hr, htys]; simp only [builtin, Sem.run_bind, hrun, Result.andThen_ok, Sem.run_pure]) ?_
          refine After.push (u := v') (hm.grow (fun _ h => h) hm.keys hκ hκM v' _ w' q1 q2 q3 q4 (fun b hb _ => q5 b hb (by simp [blkOf])) (fun k m v b g1 g2 g3 => q5 b (hm.old b ⟨k, m, v, g1, g2, g3⟩).1 (by simp [blkOf])) ?_ ?_) (.own _ _ upd_same q7)
          · intro b hb
            rcases q6 with q6 | ⟨q6, q8⟩
            · rw [hb] at q6; simp [blkOf] at q6
            · rw [hb] at q6; cases q6
              exact ⟨.inr (Nat.le_refl _), q8, fun k m v1 g1 g2 g3 => by have := (hm.old _ ⟨k, m, v1, g1, g2, g3⟩).1; omega⟩
          · intro hs
            refine ⟨v', news, upd_same, by rw [← h2]; simpa using hown, e2, hsrc.2.1, e4, fun p q y s' hy hs' => ?_⟩
            obtain ⟨u, hu, hd⟩ := hsrc.2.2.1 p q y s' hy hs'
            exact ⟨u, hu, hd.stp hs⟩
        · rename_i k
          split at h
          · rename_i e' α enc sz xs hlk
            replace h := guardB_elim h; obtain ⟨hee, h⟩ := h
            replace h := guardB_elim h; obtain ⟨hss, h⟩ := h
            have hee := Nat.eq_of_beq_eq_true hee
            have hss := Nat.eq_of_beq_eq_true hss
            subst hee
            obtain ⟨ys, hra, h⟩ := h
            obtain ⟨e1, e2, e3, e4⟩ := h.ob
            refine ⟨_, _, h.go, fun o ho Keep M ρ a w hlm hm hκ hκM hgs => ?_⟩
            replace hκ := hκ _ (Nat.le_refl _) (Nat.lt_succ_self _); replace hκM := hκM rfl
            have hmem := mem_lookM (hlm k _ hlk)
            have hgs := gs_args hb hgs
            obtain ⟨v, vs', hvs, g, gr⟩ := hgs.cons_inv
            obtain ⟨vx, vs'', hvs', gx, gn⟩ := gr.cons_inv
            subst hvs'
            have hn := gn.nil_inv
            subst hn
            obtain ⟨news, hsrc⟩ := readAs_src hra hlm hm gx e3 e4
            obtain ⟨cs, hr⟩ := run_builtin (P := P) (w := w) ho hb hvs
            obtain ⟨hv, _⟩ := g.own_inv
            obtain ⟨v0, cells, hρ, hown, hnl, hone0, hesz, hcells⟩ := hm.rel k _ hmem
            rw [hv] at hρ; cases hρ
            have hb' : (xs.length + ys.length) * f.bytes ≤ 140737488355328 := by rw [h3]; exact Int.ofNat_le.1 (by rw [Int.natCast_mul, Int.natCast_add]; exact e1)
            have hsf : sz = f.size := by rw [hss, h2]
            subst hsf
            obtain ⟨v', w', hrun, hown', q1, q2, q3, q4, q5, q6, q7⟩ := append_run (ty := o.type) hk h1 h4 hzs hown (h2 ▸ hsrc) (by unfold maxLen; omega) hb'
            refine Does.value (v := v') (w' := w') (by rw [hr, htys]; simp only [builtin, Sem.run_bind, hrun, Result.andThen_ok, Sem.run_pure]) ?_
            have hgrow := hm.grow (M1 := dropM M k) (fun x hx => mem_dropM x hx) (pairwise_dropM hm.keys) hκ hκM v' (.arr e enc f.size (xs ++ ys)) w' q1 q2 q3 q4
              (fun b hb hn => q5 b hb (fun hvb => hn ⟨k, _, v, hmem, hv, hvb⟩))
              (fun k' m v1 b g1 g2 g3 => q5 b (hm.old b ⟨k', m, v1, mem_dropM _ g1, g2, g3⟩).1 (fun hvb => hm.apart k' m k _ v1 v b (mem_dropM _ g1) hmem (dropM_ne hm.keys _ g1) g2 hv g3 hvb))
              (fun b hb => by
                rcases q6 with q6 | ⟨q6, q8⟩
                · rw [hb] at q6
                  have ho : Own M ρ b := ⟨k, _, v, hmem, hv, q6.symm⟩
                  exact ⟨.inl ho, Nat.lt_of_lt_of_le (hm.old b ho).1 q4, fun k' m v1 g1 g2 g3 => hm.apart k' m k _ v1 v b (mem_dropM _ g1) hmem (dropM_ne hm.keys _ g1) g2 hv g3 q6.symm⟩
                · rw [hb] at q6; cases q6
                  exact ⟨.inr (Nat.le_refl _), q8, fun k' m v1 g1 g2 g3 => by have := (hm.old _ ⟨k', m, v1, mem_dropM _ g1, g2, g3⟩).1; omega⟩)
              (fun hs => by
                refine ⟨v', cells ++ news, upd_same, by simpa using hown', by simp; omega, fun u hu => ?_, fun x hx => ?_, fun p q x s' hx hs' => ?_⟩
                · rcases List.mem_append.1 hu with hu | hu
                  · exact hone0 u hu
                  · exact hsrc.2.1 u hu
                · rcases List.mem_append.1 hx with hx | hx
                  · exact hesz x hx
                  · rw [e4 x hx, h2]
                · have hl := hown.1
                  rw [List.getElem?_append] at hx
                  split at hx
                  · obtain ⟨u, hu, hd⟩ := hcells p q x s' hx hs'
                    refine ⟨u, ?_, hd.stp hs⟩
                    have : p * f.size + q < cells.length := (List.getElem?_eq_some_iff.1 hu).1
                    rw [List.getElem?_append_left this]; exact hu
                  · rename_i hge
                    obtain ⟨u, hu, hd⟩ := hsrc.2.2.1 (p - xs.length) q x s' hx hs'
                    refine ⟨u, ?_, hd.stp hs⟩
                    have hge : xs.length ≤ p := by omega
                    have hmul : p * f.size = xs.length * f.size + (p - xs.length) * f.size := by rw [← Nat.add_mul]; congr 1; omega
                    rw [List.getElem?_append_right (by rw [hl, hmul]; omega), hl, hmul, show xs.length * f.size + (p - xs.length) * f.size + q - xs.length * f.size = (p - xs.length) * f.size + q by omega, h2]
                    exact hu)
            exact ⟨upd ρ κ v', hgrow.1, hgrow.2, .own _ _ upd_same q7, fun k' hk' => upd_ne (by
              rcases hk' with hk' | hk'
              · omega
              · simp only [appK] at hk'; omega)⟩
          · rename_i e' sz xs hlk
            replace h := guardB_elim h; obtain ⟨hee, h⟩ := h
            replace h := guardB_elim h; obtain ⟨hss, h⟩ := h
            have hee := Nat.eq_of_beq_eq_true hee
            have hss := Nat.eq_of_beq_eq_true hss
            subst hee
            obtain ⟨α, enc, ys, hra, h⟩ := h
            obtain ⟨e1, e2, e3, e4⟩ := h.ob
            refine ⟨_, _, h.go, fun o ho Keep M ρ a w hlm hm hκ hκM hgs => ?_⟩
            replace hκ := hκ _ (Nat.le_refl _) (Nat.lt_succ_self _); replace hκM := hκM rfl
            have hmem := mem_lookM (hlm k _ hlk)
            have hgs := gs_args hb hgs
            obtain ⟨v, vs', hvs, g, gr⟩ := hgs.cons_inv
            obtain ⟨vx, vs'', hvs', gx, gn⟩ := gr.cons_inv
            subst hvs'
            have hn := gn.nil_inv
            subst hn
            obtain ⟨news, hsrc⟩ := readAs_src hra hlm hm gx e3 e4
            obtain ⟨cs, hr⟩ := run_builtin (P := P) (w := w) ho hb hvs
            obtain ⟨hv, _⟩ := g.own_inv
            obtain ⟨v0, cells, hρ, hown, hnl, hone0, hesz, hcells⟩ := hm.rel k _ hmem
            rw [hv] at hρ; cases hρ
            have hb' : (xs.length + ys.length) * f.bytes ≤ 140737488355328 := by rw [h3]; exact Int.ofNat_le.1 (by rw [Int.natCast_mul, Int.natCast_add]; exact e1)
            have hsf : sz = f.size := by rw [hss, h2]
            subst hsf
            obtain ⟨v', w', hrun, hown', q1, q2, q3, q4, q5, q6, q7⟩ := append_run (ty := o.type) hk h1 h4 hzs hown (h2 ▸ hsrc) (by unfold maxLen; omega) hb'
            refine Does.value (v := v') (w' := w') (by rw [hr, htys]; simp only [builtin, Sem.run_bind, hrun, Result.andThen_ok, Sem.run_pure]) ?_
            have hgrow := hm.grow (M1 := dropM M k) (fun x hx => mem_dropM x hx) (pairwise_dropM hm.keys) hκ hκM v' (.garr e f.size (xs ++ ys.map enc)) w' q1 q2 q3 q4
              (fun b hb hn => q5 b hb (fun hvb => hn ⟨k, _, v, hmem, hv, hvb⟩))
              (fun k' m v1 b g1 g2 g3 => q5 b (hm.old b ⟨k', m, v1, mem_dropM _ g1, g2, g3⟩).1 (fun hvb => hm.apart k' m k _ v1 v b (mem_dropM _ g1) hmem (dropM_ne hm.keys _ g1) g2 hv g3 hvb))
              (fun b hb => by
                rcases q6 with q6 | ⟨q6, q8⟩
                · rw [hb] at q6
                  have ho : Own M ρ b := ⟨k, _, v, hmem, hv, q6.symm⟩
                  exact ⟨.inl ho, Nat.lt_of_lt_of_le (hm.old b ho).1 q4, fun k' m v1 g1 g2 g3 => hm.apart k' m k _ v1 v b (mem_dropM _ g1) hmem (dropM_ne hm.keys _ g1) g2 hv g3 q6.symm⟩
                · rw [hb] at q6; cases q6
                  exact ⟨.inr (Nat.le_refl _), q8, fun k' m v1 g1 g2 g3 => by have := (hm.old _ ⟨k', m, v1, mem_dropM _ g1, g2, g3⟩).1; omega⟩)
              (fun hs => by
                refine ⟨v', cells ++ news, upd_same, by simpa using hown', by simp; omega, fun u hu => ?_, fun x hx => ?_, fun p q x s' hx hs' => ?_⟩
                · rcases List.mem_append.1 hu with hu | hu
                  · exact hone0 u hu
                  · exact hsrc.2.1 u hu
                · rcases List.mem_append.1 hx with hx | hx
                  · exact hesz x hx
                  · obtain ⟨y, hy, rfl⟩ := List.mem_map.1 hx
                    rw [e4 y hy, h2]
                · have hl := hown.1
                  rw [List.getElem?_append] at hx
                  split at hx
                  · obtain ⟨u, hu, hd⟩ := hcells p q x s' hx hs'
                    refine ⟨u, ?_, hd.stp hs⟩
                    have : p * f.size + q < cells.length := (List.getElem?_eq_some_iff.1 hu).1
                    rw [List.getElem?_append_left this]; exact hu
                  · rename_i hge
                    rw [List.getElem?_map] at hx
                    cases hy : ys[p - xs.length]? with
                    | none => simp [hy] at hx
                    | some y =>
                    simp [hy] at hx
                    subst hx
                    obtain ⟨u, hu, hd⟩ := hsrc.2.2.1 (p - xs.length) q y s' hy hs'
                    refine ⟨u, ?_, .d _ _ (hd.stp hs)⟩
                    have hge : xs.length ≤ p := by omega
                    have hmul : p * f.size = xs.length * f.size + (p - xs.length) * f.size := by rw [← Nat.add_mul]; congr 1; omega
                    rw [List.getElem?_append_right (by rw [hl, hmul]; omega), hl, hmul, show xs.length * f.size + (p - xs.length) * f.size + q - xs.length * f.size = (p - xs.length) * f.size + q by omega, h2]
                    exact hu)
            exact ⟨upd ρ κ v', hgrow.1, hgrow.2, .own _ _ upd_same q7, fun k' hk' => upd_ne (by
              rcases hk' with hk' | hk'
              · omega
              · simp only [appK] at hk'; omega)⟩
          · exact h.elim
        · rename_i α enc xs
          obtain ⟨ys, hra, h⟩ := h
          obtain ⟨⟨e0, e1, e2, e3, e5, e4⟩, h⟩ := h
          refine ⟨_, _, h, fun o ho Keep M ρ a w hlm hm hκ hκM hgs => ?_⟩
          replace hκ := hκ _ (Nat.le_refl _) (Nat.lt_succ_self _); replace hκM := hκM rfl
          have hgs := gs_args hb hgs
          obtain ⟨v, vs', hvs, g, gr⟩ := hgs.cons_inv
          obtain ⟨vx, vs'', hvs', gx, gn⟩ := gr.cons_inv
          subst hvs'
          have hn := gn.nil_inv
          subst hn
          obtain ⟨news, hsrc⟩ := readAs_src hra hlm hm gx e3 e4
          obtain ⟨cs, hr⟩ := run_builtin (P := P) (w := w) ho hb hvs
          obtain ⟨ad, hv, hd⟩ := g.full_inv
          obtain ⟨olds, hold⟩ := src_of_d hd e3 e5
          rw [hv] at hr hold
          have hb' : (xs.length + ys.length) * f.bytes ≤ 140737488355328 := by rw [h3]; exact Int.ofNat_le.1 (by rw [Int.natCast_mul, Int.natCast_add]; exact e1)
          obtain ⟨v', w', hrun, hown, q1, q2, q3, q4, q5, q6, q7⟩ := append_full (ty := o.type) hk h1 h4 hzs ad (h2 ▸ hold) (h2 ▸ hsrc) e0 (by unfold maxLen; omega) hb'
          refine Does.value (v := v') (w' := w') (by rw [hr, htys]; simp only [builtin, Sem.run_bind, hrun, Result.andThen_ok, Sem.run_pure]) ?_
          refine After.push (u := v') (hm.grow (fun _ h => h) hm.keys hκ hκM v' _ w' q1 q2 q3 q4 (fun b hb _ => q5 b hb) (fun k m v b g1 g2 g3 => q5 b (hm.old b ⟨k, m, v, g1, g2, g3⟩).1) ?_ ?_) (.own _ _ upd_same q7)
          · intro b hb
            obtain ⟨q6, q8⟩ := q6
            rw [hb] at q6; cases q6
            exact ⟨.inr (Nat.le_refl _), q8, fun k m v1 g1 g2 g3 => by have := (hm.old _ ⟨k, m, v1, g1, g2, g3⟩).1; omega⟩
          · intro hs
            refine ⟨v', olds ++ news, upd_same, by rw [← h2]; simpa using hown, by simp; omega, fun u hu => ?_, fun x hx => ?_, fun p q y s' hy hs' => ?_⟩
            · rcases List.mem_append.1 hu with hu | hu
              · exact hold.2.1 u hu
              · exact hsrc.2.1 u hu
            · rcases List.mem_append.1 hx with hx | hx
              · exact e5 x hx
              · exact e4 x hx
            · have hl := hold.1
              rw [List.getElem?_append] at hy
              split at hy
              · obtain ⟨u, hu, hd⟩ := hold.2.2.1 p q y s' hy hs'
                refine ⟨u, ?_, hd.stp hs⟩
                have : p * j.sz + q < olds.length := (List.getElem?_eq_some_iff.1 hu).1
                rw [List.getElem?_append_left this]; exact hu
              · rename_i hge
                obtain ⟨u, hu, hd⟩ := hsrc.2.2.1 (p - xs.length) q y s' hy hs'
                refine ⟨u, ?_, hd.stp hs⟩
                have hge : xs.length ≤ p := by omega
                have hmul : p * j.sz = xs.length * j.sz + (p - xs.length) * j.sz := by rw [← Nat.add_mul]; congr 1; omega
                rw [List.getElem?_append_right (by rw [hl, hmul]; omega), hl, hmul, show xs.length * j.sz + (p - xs.length) * j.sz + q - xs.length * j.sz = (p - xs.length) * j.sz + q by omega]
                exact hu
        · rcases h with h | h | h
          · obtain ⟨α, enc, ys, hra, h⟩ := h
            obtain ⟨⟨e0, e1, e2, e3, e4⟩, h⟩ := h
            refine ⟨_, _, h, fun o ho Keep M ρ a w hlm hm hκ hκM hgs => ?_⟩
            replace hκ := hκ _ (Nat.le_refl _) (Nat.lt_succ_self _); replace hκM := hκM rfl
            have hgs := gs_args hb hgs
            obtain ⟨v, vs', hvs, g, gr⟩ := hgs.cons_inv
            obtain ⟨vx, vs'', hvs', gx, gn⟩ := gr.cons_inv
            subst hvs'
            have hn := gn.nil_inv
            subst hn
            obtain ⟨news, hsrc⟩ := readAs_src hra hlm hm gx e3 e4
            obtain ⟨cs, hr⟩ := run_builtin (P := P) (w := w) ho hb hvs
            obtain ⟨ad, hv⟩ := g.nils_inv
            rw [hv] at hr
            have hb' : ys.length * f.bytes ≤ 140737488355328 := by rw [h3]; omega
            obtain ⟨v', w', hrun, hown, q1, q2, q3, q4, q5, q6, q7⟩ := append_nils (ty := o.type) hk h1 h4 hzs ad (h2 ▸ hsrc) e0 (by unfold maxLen; omega) hb'
            refine Does.value (v := v') (w' := w') (by rw [hr, htys]; simp only [builtin, Sem.run_bind, hrun, Result.andThen_ok, Sem.run_pure]) ?_
            refine After.push (u := v') (hm.grow (fun _ h => h) hm.keys hκ hκM v' _ w' q1 q2 q3 q4 (fun b hb _ => q5 b hb) (fun k m v b g1 g2 g3 => q5 b (hm.old b ⟨k, m, v, g1, g2, g3⟩).1) ?_ ?_) (.own _ _ upd_same q7)
            · intro b hb
              obtain ⟨q6, q8⟩ := q6
              rw [hb] at q6; cases q6
              exact ⟨.inr (Nat.le_refl _), q8, fun k m v1 g1 g2 g3 => by have := (hm.old _ ⟨k, m, v1, g1, g2, g3⟩).1; omega⟩
            · intro hs
              refine ⟨v', news, upd_same, by rw [← h2]; exact hown, e2, hsrc.2.1, e4, fun p q y s' hy hs' => ?_⟩
              obtain ⟨u, hu, hd⟩ := hsrc.2.2.1 p q y s' hy hs'
              exact ⟨u, hu, hd.stp hs⟩
          · obtain ⟨α, enc, hra, e3, h⟩ := h
            refine ⟨_, _, h, fun o ho Keep M ρ a w hlm hm _ _ hgs => ?_⟩
            have hgs := gs_args hb hgs
            obtain ⟨v, vs', hvs, g, gr⟩ := hgs.cons_inv
            obtain ⟨vx, vs'', hvs', gx, gn⟩ := gr.cons_inv
            subst hvs'
            have hn := gn.nil_inv
            subst hn
            obtain ⟨news, hl, _, _, hx⟩ := readAs_src hra hlm hm gx e3 (fun x hx => by cases hx)
            obtain ⟨cs, hr⟩ := run_builtin (P := P) (w := w) ho hb hvs
            obtain ⟨ad, hv⟩ := g.nils_inv
            rw [hv] at hr
            have hrun : (Builtin.append_ #[t, t] o.type #[.slice ad 0 0, vx]).run P w = .ok (.slice ad 0 0) w := by
              rcases hx with ⟨rfl, _⟩ | ⟨a', c', rfl, _⟩
              · cases ad <;> simp [Builtin.append_, run_underlying hk, sizeOf, typeInfo, h1, Builtin.lenOf, Builtin.firstCells, storeCells]
              · cases ad <;> simp [Builtin.append_, run_underlying hk, sizeOf, typeInfo, h1, Builtin.lenOf, Builtin.firstCells, storeCells, loadCells, loadCellsFrom]
            exact Does.value (v := .slice ad 0 0) (w' := w) (by rw [hr, htys]; simp only [builtin, Sem.run_bind, hrun, Result.andThen_ok, Sem.run_pure]) (After.same hm (.d _ _ (.nils ad)))
          · exact h.elim
        · exact h.elim
      · exact h.elim
    · exact h.elim
  · rename_i d x
    split at h
    · rename_i t t' htys
      have htys := types_two htys
      replace h := withT_elim h; obtain ⟨i, hi, h⟩ := h
      have hk := (hT t i hi).kind
      split at h
      · rename_i e hkind
        rw [hkind] at hk
        have hk : P.underlying t = some (.slice e) := hk
        replace h := withT_elim h; obtain ⟨j, hj, h⟩ := h
        obtain ⟨f, h1, h2, h3, z, h4, h5, h6, h7, h8⟩ := (hT e j hj).inf
        split at h
        · rename_i k
          split at h
          · rename_i T α enc sz xs hlk
            replace h := guardB_elim h; obtain ⟨hss, h⟩ := h
            have hss := Nat.eq_of_beq_eq_true hss
            unfold copyInto at h
            obtain ⟨ys, hra, h⟩ := h
            obtain ⟨e1, e2, e3, e4, e5⟩ := h.ob
            refine ⟨_, _, h.go, fun o ho Keep M ρ a w hlm hm _ _ hgs => ?_⟩
            have hmem := mem_lookM (hlm k _ hlk)
            have hgs := gs_args hb hgs
            obtain ⟨v, vs', hvs, g, gr⟩ := hgs.cons_inv
            obtain ⟨vx, vs'', hvs', gx, gn⟩ := gr.cons_inv
            subst hvs'
            have hn := gn.nil_inv
            subst hn
            obtain ⟨news, hsrc⟩ := readAs_src hra hlm hm gx e1 e5
            obtain ⟨cs, hr⟩ := run_builtin (P := P) (w := w) ho hb hvs
            obtain ⟨hv, _⟩ := g.own_inv
            obtain ⟨v0, cells, hρ, hown, hnl, _⟩ := hm.rel k _ hmem
            rw [hv] at hρ; cases hρ
            rcases hown.2 with ⟨rfl, hx0⟩ | ⟨g', cap, cur, rfl, _⟩
            · have hx0 : xs = [] := List.eq_nil_of_length_eq_zero hx0
              subst hx0
              have hrun : (Builtin.copy_ #[t, t'] o.type #[.slice none 0 0, vx]).run P w = .ok (.int .i64 0) w := by
                rcases hsrc.2.2.2 with ⟨rfl, _⟩ | ⟨a', c', rfl, _⟩
                · simp [Builtin.copy_, run_underlying hk, sizeOf, typeInfo, h1, Builtin.lenOf, Builtin.firstCells, goInt]
                · simp [Builtin.copy_, run_underlying hk, sizeOf, typeInfo, h1, Builtin.lenOf, Builtin.firstCells, goInt, loadCells, loadCellsFrom]
              refine Does.value (v := .int .i64 0) (w' := w) (by rw [hr, htys]; simp only [builtin, Sem.run_bind, hrun, Result.andThen_ok, Sem.run_pure]) ?_
              have hsame := setM_same (hlm k _ hlk)
              have e0 : (Mem.arr T enc sz (List.take (Int.toNat 0) ([] : List α) ++ (List.take (Int.toNat (([] : List α).length : Int)) ys ++ List.drop (Int.toNat 0 + min ys.length (Int.toNat (([] : List α).length : Int))) []))) = Mem.arr T enc sz [] := by simp
              rw [e0]
              refine ⟨ρ, ?_, ?_, ?_, fun _ _ => rfl⟩
              · show Stp (Own M ρ) (Own (setM M k _) ρ) ρ ρ w w
                rw [hsame]; exact .refl
              · show MemOK Keep (setM M k _) ρ w
                rw [hsame]; exact hm
              · exact .d _ _ (by simpa using D.val (S := fun b => Keep b ∨ Own (appM M κ (.set k (.arr T enc sz []))) ρ b) (w := w) (.int .i64 0))
            · exact copy_row (t' := t') (cap' := cap) hk h1 hm hmem (h2.trans hss.symm) hv (lo := 0) (n := xs.length) (by omega) hsrc e5 (fun v w' hx => by
                rw [Nat.zero_mul] at hx
                rw [hr, htys]; simp only [builtin, Sem.run_bind, hx, Result.andThen_ok, Sem.run_pure])
          · exact h.elim
        · rename_i k sz' lo n
          split at h
          · rename_i T α enc sz xs hlk
            replace h := guardB_elim h; obtain ⟨hss, h⟩ := h
            have hss := Nat.eq_of_beq_eq_true hss
            replace h := guardB_elim h; obtain ⟨hss', h⟩ := h
            have hss' := Nat.eq_of_beq_eq_true hss'
            subst hss'
            unfold copyInto at h
            obtain ⟨ys, hra, h⟩ := h
            obtain ⟨e1, e2, e3, e4, e5⟩ := h.ob
            refine ⟨_, _, h.go, fun o ho Keep M ρ a w hlm hm _ _ hgs => ?_⟩
            have hmem := mem_lookM (hlm k _ hlk)
            have hgs := gs_args hb hgs
            obtain ⟨v, vs', hvs, g, gr⟩ := hgs.cons_inv
            obtain ⟨vx, vs'', hvs', gx, gn⟩ := gr.cons_inv
            subst hvs'
            have hn := gn.nil_inv
            subst hn
            obtain ⟨news, hsrc⟩ := readAs_src hra hlm hm gx e1 e5
            obtain ⟨cs, hr⟩ := run_builtin (P := P) (w := w) ho hb hvs
            obtain ⟨b, len, cap, cap', hρ, rfl, _, _⟩ := g.win_inv
            exact copy_row (t' := t') (cap' := cap') hk h1 hm hmem (h2.trans hss.symm) hρ (by omega) hsrc e5 (fun v w' hx => by
              rw [hr, htys]; simp only [builtin, Sem.run_bind, hx, Result.andThen_ok, Sem.run_pure])
          · exact h.elim
        · exact h.elim
      · exact h.elim
    · exact h.elim
  · exact h.elim

end Go.Gs
/- Calls by contract. -/
namespace Go.Gs

section view
variable {lm : Nat → Option Mem} {Keep : Nat → Prop} {M : List (Nat × Mem)} {ρ : Names} {w : World} {S' : Nat → Prop}

theorem D.less {S : Nat → Prop} (h : ∀ b, S' b → S b) {s : SV} {v : Value} (hd : D S w s v) : D S' w s v := hd.mono (Nat.le_refl _) fun b _ hb => ⟨fun h' => hb (h b h'), rfl⟩

/-- A part of what is one's own, seen as data. -/
theorem win_d {α : Type} {enc : α → List SV} {sz : Nat} {xs : List α} {b len cap cap' lo n : Nat} (hb : b < w.heap.size) (hS : ¬ S' b) (hesz : ∀ x ∈ xs, (enc x).length = sz)
    (hd : D S' w (.sl enc xs) (.slice (some ⟨b, 0, none⟩) len cap)) (h1 : lo + n ≤ len) (h2 : n ≤ cap') (hlen : len = xs.length) :
    D S' w (.sl enc ((xs.drop lo).take n)) (.slice (some ⟨b, lo * sz, none⟩) n cap') := by
  have hl : ((xs.drop lo).take n).length = n := by simp; omega
  have hmem : ∀ x ∈ (xs.drop lo).take n, x ∈ xs := fun x hx => List.mem_of_mem_drop (List.mem_of_mem_take hx)
  rcases hd.sl_inv with ⟨rfl, _⟩ | ⟨sz', b', o, cp, c, e, _, _, h48, _, hsz', hc, he⟩
  · have hn : n = 0 := by simp at hlen; omega
    subst hn
    have := D.sl (S := S') (w := w) enc (([] : List α).drop lo |>.take 0) sz b (lo * sz) cap' (fun _ _ => undef) hb hS (by simp) (by simp) (by simp) (fun i j hi => by simp at hi) (fun i j x s hx => by simp at hx)
    simpa using this
  · cases e
    have hix : ∀ i x, ((xs.drop lo).take n)[i]? = some x → xs[lo + i]? = some x := by
      intro i x hx
      rw [List.getElem?_take] at hx
      split at hx
      · simpa using hx
      · cases hx
    have hs : 0 < n → sz' = sz := fun hp => by
      have h1 := List.getElem?_eq_getElem (show lo < xs.length by omega)
      have h2 := List.mem_of_getElem? h1
      rw [← hesz _ h2, ← hsz' _ h2]
    have := D.sl (S := S') (w := w) enc ((xs.drop lo).take n) sz b (lo * sz) cap' (fun i j => c (lo + i) j) hb hS (by omega) (by omega) (fun x hx => hesz x (hmem x hx)) (fun i j hi hj => by
      have hsz := hs (by omega)
      have h5 := hc (lo + i) j (by omega) (by omega)
      rw [Nat.add_mul, hsz, Nat.zero_add] at h5
      exact h5) (fun i j x s hx hs' => he (lo + i) j x s (hix i x hx) hs')
    rwa [hl] at this

theorem viewC_d (hlm : ∀ k m, lm k = some m → (k, m) ∈ M) (hm : MemOK Keep M ρ w) (hsub : ∀ b, S' b → Keep b ∨ Own M ρ b) {s : SV} {v : Value}
    (hg : G (fun b => Keep b ∨ Own M ρ b) (Own M ρ) ρ w s v) (hc : flat s = true ∨ ∀ b, Own M ρ b → ¬ S' b) : D S' w (viewC lm s) v := by
  unfold viewC
  split
  · rename_i k
    have he : ∀ b, Own M ρ b → ¬ S' b := hc.resolve_left (by simp [flat])
    split
    · rename_i T α enc sz xs hlk
      exact own_d hm (hlm k _ hlk) hsub (fun v b h1 h2 => he b ⟨k, _, v, hlm k _ hlk, h1, h2⟩) hg.own_inv.1
    · exact .junk v
  · rename_i f
    obtain ⟨vs, rfl, hvs⟩ := hg.fn_inv
    rw [hvs.nil_inv]
    exact .val _
  · split
    · rename_i hf
      exact (flat_d hf hg).less hsub
    · exact .junk v

theorem viewCs_get (cs : List SV) (j : Nat) : (viewCs lm cs)[j]? = (cs[j]?).map (viewC lm) := by
  induction cs generalizing j with
  | nil => simp [viewCs]
  | cons c cs ih => cases j with
    | zero => simp [viewCs]
    | succ j => simp [viewCs, ih]
theorem viewCs_len (cs : List SV) : (viewCs lm cs).length = cs.length := by
  induction cs with
  | nil => rfl
  | cons c cs ih => simp [viewCs, ih]

theorem view1_g (hlm : ∀ k m, lm k = some m → (k, m) ∈ M) (hm : MemOK Keep M ρ w) (hsub : ∀ b, S' b → Keep b ∨ Own M ρ b) {s : SV} {v : Value}
    (hg : G (fun b => Keep b ∨ Own M ρ b) (Own M ρ) ρ w s v) (hc : clean1 lm s = true ∨ ∀ b, Own M ρ b → ¬ S' b) {Pm' : Nat → Prop} (hP : ∀ b, ¬ Own M ρ b → ¬ Pm' b)
    (hP2 : ∀ k off b, s = .loc k off → ρ k = some (.pointer (some ⟨b, 0, none⟩)) → ¬ Pm' b) {ρ' : Names} : G S' Pm' ρ' w (view1 lm s) v := by
  unfold view1
  split
  · rename_i k off
    split
    · rename_i T cs hlk
      obtain ⟨b, vs, hρ, hheap, hlen, hone, hcells⟩ := hm.rel k _ (hlm k _ hlk)
      obtain ⟨b', hρ', rfl⟩ := hg.loc_inv
      rw [hρ] at hρ'; cases hρ'
      refine .ptr _ b off (fun j => (vs[off + j]?).getD undef) (hm.old b ⟨k, _, _, hlm k _ hlk, hρ, rfl⟩).1 (hP2 k off b rfl hρ) (fun j hj => ?_) (fun j s hs => ?_)
      · have hlt : off + j < vs.length := by simp [viewCs_len] at hj; omega
        rw [List.getElem?_eq_getElem hlt]
        exact ⟨by rw [cell_row hheap, List.getElem?_eq_getElem hlt]; rfl, hone _ (List.getElem_mem hlt)⟩
      · simp only [List.getElem?_drop, viewCs_get] at hs
        cases hcs : cs[off + j]? with
        | none => simp [hcs] at hs
        | some c =>
          simp [hcs] at hs
          subst hs
          have hlt : off + j < vs.length := by rw [hlen]; exact (List.getElem?_eq_some_iff.1 hcs).1
          rw [List.getElem?_eq_getElem hlt]
          refine viewC_d hlm hm hsub (hcells _ c _ hcs (List.getElem?_eq_getElem hlt)) (hc.imp (fun h => ?_) id)
          simp only [clean1, hlk] at h
          exact flats_mem h _ c hcs
    · exact .d _ _ (.junk v)
  · rename_i k
    have he : ∀ b, Own M ρ b → ¬ S' b := hc.resolve_left (by simp [clean1, flat])
    split
    · rename_i T α enc sz xs hlk
      exact .d _ _ (own_d hm (hlm k _ hlk) hsub (fun v b h1 h2 => he b ⟨k, _, v, hlm k _ hlk, h1, h2⟩) hg.own_inv.1)
    · exact .d _ _ (.junk v)
  · rename_i k sz lo n
    have he : ∀ b, Own M ρ b → ¬ S' b := hc.resolve_left (by simp [clean1, flat])
    split
    · rename_i T α enc sz' xs hlk
      split
      · rename_i hb
        have := Nat.eq_of_beq_eq_true hb
        subst this
        obtain ⟨b, len, cap, cap', hρ, rfl, h1, h2⟩ := hg.win_inv
        have hd := own_d hm (hlm k _ hlk) hsub (fun v b h1 h2 => he b ⟨k, _, v, hlm k _ hlk, h1, h2⟩) hρ
        have ho : Own M ρ b := ⟨k, _, _, hlm k _ hlk, hρ, rfl⟩
        obtain ⟨v', cells, hρ', hown, hlen, hone, hesz, hcells⟩ := hm.rel k _ (hlm k _ hlk)
        rw [hρ] at hρ'; cases hρ'
        refine .d _ _ (win_d (hm.old b ho).1 (he b ho) hesz hd h1 h2 ?_)
        rcases hown.2 with ⟨e, _⟩ | ⟨g, cap, cur, e, _⟩ <;> cases e
        rfl
      · exact .d _ _ (.junk _)
    · exact .d _ _ (.junk _)
  · rename_i cs
    obtain ⟨vs, rfl, hvs⟩ := hg.agg_inv
    refine .agg _ vs (by rw [viewCs_len]; exact hvs.1) fun j s v h1 h2 => ?_
    rw [viewCs_get] at h1
    cases hcs : cs[j]? with
    | none => simp [hcs] at h1
    | some c =>
      simp [hcs] at h1
      subst h1
      exact .d _ _ (viewC_d hlm hm hsub (hvs.2 j c v hcs h2) (hc.imp (fun h => flats_mem h j c hcs) id))
  · rename_i cs
    obtain ⟨b, o, c, rfl, hb, hnp, h1, h2⟩ := hg.ptr_inv
    exact .ptr cs b o c hb (hP b hnp) h1 fun j s hs => (h2 j s hs).less hsub
  · rename_i f
    obtain ⟨vs, rfl, hvs⟩ := hg.fn_inv
    rw [hvs.nil_inv]
    exact .fn f [] [] rfl fun j s v h => by simp at h
  · split
    · rename_i hf
      exact .d _ _ ((flat_d hf hg).less hsub)
    · exact .d _ _ (.junk v)

theorem views1_g (hlm : ∀ k m, lm k = some m → (k, m) ∈ M) (hm : MemOK Keep M ρ w) (hsub : ∀ b, S' b → Keep b ∨ Own M ρ b) {Pm' : Nat → Prop} (hP : ∀ b, ¬ Own M ρ b → ¬ Pm' b) {ρ' : Names} : ∀ {cs : List SV} {vs : List Value},
    (∀ k off b, .loc k off ∈ cs → ρ k = some (.pointer (some ⟨b, 0, none⟩)) → ¬ Pm' b) → Gs (fun b => Keep b ∨ Own M ρ b) (Own M ρ) ρ w cs vs → (cleans1 lm cs = true ∨ ∀ b, Own M ρ b → ¬ S' b) → Gs S' Pm' ρ' w (views1 lm cs) vs
  | [], vs, _, hg, _ => by rw [hg.nil_inv]; exact .nil
  | c :: cs, vs, hP2, hg, hc => by
    obtain ⟨v, vs', rfl, h1, h2⟩ := hg.cons_inv
    have key : (clean1 lm c = true ∨ ∀ b, Own M ρ b → ¬ S' b) ∧ (cleans1 lm cs = true ∨ ∀ b, Own M ρ b → ¬ S' b) := by
      rcases hc with hc | hc
      · simp only [cleans1] at hc
        split at hc
        · exact ⟨.inl ‹_›, .inl hc⟩
        · cases hc
      · exact ⟨.inr hc, .inr hc⟩
    exact .cons (view1_g hlm hm hsub h1 key.1 hP fun k off b e => hP2 k off b (e ▸ .head _)) (views1_g hlm hm hsub hP (fun k off b hk => hP2 k off b (.tail _ hk)) h2 key.2)

theorem view_g (hlm : ∀ k m, lm k = some m → (k, m) ∈ M) (hm : MemOK Keep M ρ w) (hsub : ∀ b, S' b → Keep b ∨ Own M ρ b) {s : SV} {v : Value}
    (hg : G (fun b => Keep b ∨ Own M ρ b) (Own M ρ) ρ w s v) (hc : clean lm [s] = true ∨ ∀ b, Own M ρ b → ¬ S' b) {Pm' : Nat → Prop} (hP : ∀ b, ¬ Own M ρ b → ¬ Pm' b)
    (hP2 : ∀ k off b, (s = .loc k off ∨ ∃ f cs, s = .fn f cs ∧ .loc k off ∈ cs) → ρ k = some (.pointer (some ⟨b, 0, none⟩)) → ¬ Pm' b) {ρ' : Names} : G S' Pm' ρ' w (view lm s) v := by
  unfold view
  split
  · rename_i f cs
    obtain ⟨vs, rfl, hvs⟩ := hg.fn_inv
    have h := views1_g (S' := S') (Pm' := Pm') (ρ' := ρ') hlm hm hsub hP (fun k off b hk => hP2 k off b (.inr ⟨_, _, rfl, hk⟩)) hvs (hc.imp (fun h => by
      simp only [clean] at h
      split at h
      · assumption
      · cases h) id)
    exact .fn f _ vs h.1 h.2
  · rename_i hnf
    refine view1_g hlm hm hsub hg (hc.imp (fun h => ?_) id) hP (fun k off b e => hP2 k off b (.inl e))
    unfold clean at h
    split at h
    · rename_i heq; cases heq
    · rename_i heq; cases heq; exact absurd rfl (hnf _ _)
    · rename_i heq
      cases heq
      split at h
      · assumption
      · cases h

theorem clean_cons {s : SV} {r : List SV} (h : clean lm (s :: r) = true) : clean lm [s] = true ∧ clean lm r = true := by
  cases s <;> simp only [clean] at h ⊢ <;> (split at h <;> simp_all)

theorem views_g (hlm : ∀ k m, lm k = some m → (k, m) ∈ M) (hm : MemOK Keep M ρ w) (hsub : ∀ b, S' b → Keep b ∨ Own M ρ b) {Pm' : Nat → Prop} (hP : ∀ b, ¬ Pm' b) {ρ' : Names} : ∀ {cs : List SV} {vs : List Value},
    Gs (fun b => Keep b ∨ Own M ρ b) (Own M ρ) ρ w cs vs → (clean lm cs = true ∨ ∀ b, Own M ρ b → ¬ S' b) → Gs S' Pm' ρ' w (views lm cs) vs
  | [], vs, hg, _ => by rw [hg.nil_inv]; exact .nil
  | c :: cs, vs, hg, hc => by
    obtain ⟨v, vs', rfl, h1, h2⟩ := hg.cons_inv
    have key : (clean lm [c] = true ∨ ∀ b, Own M ρ b → ¬ S' b) ∧ (clean lm cs = true ∨ ∀ b, Own M ρ b → ¬ S' b) := by
      rcases hc with hc | hc
      · exact ⟨.inl (clean_cons hc).1, .inl (clean_cons hc).2⟩
      · exact ⟨.inr hc, .inr hc⟩
    exact .cons (view_g hlm hm hsub h1 key.1 (fun b _ => hP b) (fun _ _ b _ _ => hP b)) (views_g hlm hm hsub hP h2 key.2)
end view

theorem scalar_mem {cs : List SV} (h : scalar.scalars cs = true) : ∀ (j : Nat) (s : SV), cs[j]? = some s → scalar s = true := by
  induction cs with
  | nil => intro j s h1; simp at h1
  | cons c cs ih =>
    intro j s h1
    simp only [scalar.scalars] at h
    split at h
    · rename_i hc
      cases j with
      | zero => simp at h1; subst h1; exact hc
      | succ j => exact ih h j s (by simpa using h1)
    · cases h

theorem scalar_any {S S' Pm : Nat → Prop} {ρ : Names} {w w' : World} {s : SV} (hs : scalar s = true) {v : Value} (hg : G S Pm ρ w s v) : D S' w' s v := by
  have key : ∀ {s : SV} {v : Value}, D S w s v → scalar s = true → D S' w' s v := by
    intro s v hd
    induction hd with
    | val v => exact fun _ => .val v
    | pr p i => exact fun _ => .pr p i
    | nils a => exact fun _ => .nils a
    | anyb b => exact fun _ => .anyb b
    | agg cs vs hl h ih => exact fun hs => .agg cs vs hl fun j s v h1 h2 => ih j s v h1 h2 (scalar_mem hs j s h1)
    | ifc t s v h ih => exact fun hs => .ifc t s v (ih hs)
    | _ => intro hs; simp [scalar] at hs
  induction hg with
  | d _ _ h => exact key h hs
  | agg cs vs hl h ih => exact .agg cs vs hl fun j s v h1 h2 => ih j s v h1 h2 (scalar_mem hs j s h1)
  | ifc t s v h ih => exact .ifc t s _ (ih hs)
  | _ => simp [scalar] at hs

/-- A result that is plain data means the same to the caller. -/
theorem flatR_g {S S' Pm Pm' : Nat → Prop} {ρ ρ' : Names} {w : World} (hsub : ∀ b, S' b → S b) {r : SV} (hr : flatR r = true) {v : Value} (hg : G S Pm ρ w r v) : G S' Pm' ρ' w r v := by
  unfold flatR at hr
  split at hr
  · obtain ⟨vs, rfl, hvs⟩ := hg.tup_inv
    exact .tup _ vs hvs.1 fun j s v h1 h2 => .d _ _ ((flat_d (flats_mem hr j s h1) (hvs.2 j s v h1 h2)).less hsub)
  · exact .d _ _ ((flat_d hr hg).less hsub)
theorem scalarR_g {S S' Pm Pm' : Nat → Prop} {ρ ρ' : Names} {w w' : World} {r : SV} (hr : scalarR r = true) {v : Value} (hg : G S Pm ρ w r v) : G S' Pm' ρ' w' r v := by
  unfold scalarR at hr
  split at hr
  · obtain ⟨vs, rfl, hvs⟩ := hg.tup_inv
    exact .tup _ vs hvs.1 fun j s v h1 h2 => .d _ _ (scalar_any (scalar_mem hr j s h1) (hvs.2 j s v h1 h2))
  · exact .d _ _ (scalar_any hr hg)

theorem call_run {P : Program} {o : Oper} {c : Call} {fx : Operand} (ho : o.op = .call c) (hc : c.callee = .value fx) {a : Act} {w : World} {f : FuncId} {fs caps vs : List Value}
    (hf : a.eval fx = .func (.func f) fs.toArray caps.toArray) (hv : c.args.toList.map a.eval = vs) (hcall : Callable P f) : (execOp a.eval o).run P w = .ok (.enter f (fs ++ (vs ++ caps)).toArray) w := by
  obtain ⟨fn, h1, h2, h3⟩ := hcall
  have h : c.args.map a.eval = vs.toArray := by apply Array.ext'; simp [hv]
  simp only [execOp, ho, resolve, hc, hf, h, Deferred.ofValue, invoke, callFunc, Sem.run_bind, Sem.run_pure, Result.andThen_ok, run_program, h1, h2, h3, Bool.false_eq_true, if_false]
  simp

theorem own_nil {ρ : Names} {b : Nat} : ¬ Own [] ρ b := fun ⟨_, _, _, h, _⟩ => by cases h

theorem memOK_nil {S : Nat → Prop} {ρ : Names} {w : World} (h : ∀ b, S b → b < w.heap.size) : MemOK S [] ρ w :=
  ⟨fun _ _ h => (by cases h), List.Pairwise.nil, fun _ _ _ _ _ _ _ h => (by cases h), fun _ h => absurd h own_nil, h⟩

end Go.Gs
