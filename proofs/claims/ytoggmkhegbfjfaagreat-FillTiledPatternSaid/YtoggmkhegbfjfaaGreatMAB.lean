/- What is known stays known; one operation carried out. -/
import Derived.Test.YtoggmkhegbfjfaaGreatMAA
import Derived.Laws.Rows
import Derived.Laws.Tables
import Derived.RowKit3
import Derived.Laws.StructEq
import Derived.Laws.MakeOwn
import Derived.Laws.Slices
import Derived.Laws.BitsLemmas
import Derived.Laws.Small
import Derived.Laws.CopyRow
import Derived.Laws.Cover3
namespace Go.Gs

theorem cell_same {w w' : World} {b o : Nat} (h : w'.heap[b]? = w.heap[b]?) : w'.cell? ⟨b, o, none⟩ = w.cell? ⟨b, o, none⟩ := by
  simp only [World.cell?, h]

theorem D.mono {S S' : Nat → Prop} {w w' : World} (hz : w.heap.size ≤ w'.heap.size)
    (hS : ∀ b, b < w.heap.size → ¬ S b → ¬ S' b ∧ w'.heap[b]? = w.heap[b]?) {s : SV} {v : Value} (h : D S w s v) : D S' w' s v := by
  induction h with
  | val v => exact .val v
  | pr p i => exact .pr p i
  | agg cs vs hl h ih => exact .agg cs vs hl ih
  | nil enc a => exact .nil enc a
  | nils a => exact .nils a
  | anyb b => exact .anyb b
  | junk v => exact .junk v
  | full enc xs a h ih => exact .full enc xs a ih
  | sl enc xs sz b o cap c hb hS' hlen hcap hsz hc h ih =>
    obtain ⟨h1, h2⟩ := hS b hb hS'
    exact .sl enc xs sz b o cap c (Nat.lt_of_lt_of_le hb hz) h1 hlen hcap hsz (fun i j hi hj => by rw [cell_same h2]; exact hc i j hi hj) ih
  | dptr cs b o c hb hS' hc h ih =>
    obtain ⟨h1, h2⟩ := hS b hb hS'
    exact .dptr cs b o c (Nat.lt_of_lt_of_le hb hz) h1 (fun j hj => by rw [cell_same h2]; exact hc j hj) ih
  | dfn f cs vs hl h ih => exact .dfn f cs vs hl ih
  | ifc t s v h ih => exact .ifc t s v ih

theorem G.mono {S S' Pm Pm' : Nat → Prop} {ρ ρ' : Names} {w w' : World} (hz : w.heap.size ≤ w'.heap.size)
    (hS : ∀ b, b < w.heap.size → ¬ S b → ¬ S' b ∧ w'.heap[b]? = w.heap[b]?)
    (hP : ∀ b, b < w.heap.size → ¬ Pm b → ¬ Pm' b ∧ w'.heap[b]? = w.heap[b]?)
    (hρ : ∀ k v, ρ k = some v → ρ' k = some v) {s : SV} {v : Value} (h : G S Pm ρ w s v) : G S' Pm' ρ' w' s v := by
  induction h with
  | d s v h => exact .d s v (h.mono hz hS)
  | loc k off b h => exact .loc k off b (hρ _ _ h)
  | own k v h h1 => exact .own k v (hρ _ _ h) h1
  | eloc k sz i off b len cap h => exact .eloc k sz i off b len cap (hρ _ _ h)
  | win k sz lo n b len cap cap' h h1 h2 => exact .win k sz lo n b len cap cap' (hρ _ _ h) h1 h2
  | ptr cs b o c hb hP' hc h =>
    obtain ⟨h1, h2⟩ := hP b hb hP'
    exact .ptr cs b o c (Nat.lt_of_lt_of_le hb hz) h1 (fun j hj => by rw [cell_same h2]; exact hc j hj) (fun j s hs => (h j s hs).mono hz hS)
  | agg cs vs hl h ih => exact .agg cs vs hl ih
  | tup cs vs hl h ih => exact .tup cs vs hl ih
  | fn f cs vs hl h ih => exact .fn f cs vs hl ih
  | ifc t s v h ih => exact .ifc t s v ih

theorem SameOut.refl (w : World) : SameOut w w := ⟨rfl, fun _ => rfl⟩
theorem SameOut.trans {w w' w'' : World} (h : SameOut w w') (k : SameOut w' w'') : SameOut w w'' := ⟨k.1.trans h.1, fun a => (k.2 a).trans (h.2 a)⟩
theorem SameOut.cells (w : World) (c : Array Value) (t : TypeId) : SameOut w (w.alloc (.cells c t)) := ⟨rfl, fun a => RowKit.frozen?_alloc_cells w c t a⟩
theorem SameOut.setRow (w : World) (g : Nat) (cs : Array Value) : SameOut w (w.setRow g cs) := ⟨rfl, fun a => by
  show World.frozen? { w with heap := w.heap.modify g _ } a = _
  unfold World.frozen?
  simp only [Array.getElem?_modify]
  by_cases h : g = a.block
  · simp only [h, if_true]
    cases w.heap[a.block]? with
    | none => rfl
    | some o => cases o <;> rfl
  · simp only [h, if_false]⟩
theorem Stp.refl {W : Nat → Prop} {ρ : Names} {w : World} : Stp W W ρ ρ w w := ⟨rfl, rfl, .refl _, Nat.le_refl _, fun _ _ _ => rfl, fun _ h => .inl h, fun _ _ h => h⟩

theorem Stp.trans {W W' W'' : Nat → Prop} {ρ ρ' ρ'' : Names} {w w' w'' : World} (h : Stp W W' ρ ρ' w w') (k : Stp W' W'' ρ' ρ'' w' w'') : Stp W W'' ρ ρ'' w w'' :=
  ⟨k.os.trans h.os, k.tape.trans h.tape, h.output.trans k.output, Nat.le_trans h.size k.size,
    fun b hb hn => (k.block b (Nat.lt_of_lt_of_le hb h.size) (fun hw => (h.own b hw).elim hn (fun h2 => by omega))).trans (h.block b hb hn),
    fun b hb => (k.own b hb).elim (h.own b) (fun h2 => .inr (Nat.le_trans h.size h2)), fun k' v hv => k.rho _ _ (h.rho _ _ hv)⟩

theorem G.stp {Keep W W' : Nat → Prop} {ρ ρ' : Names} {w w' : World} (h : Stp W W' ρ ρ' w w') {s : SV} {v : Value}
    (hg : G (fun b => Keep b ∨ W b) W ρ w s v) : G (fun b => Keep b ∨ W' b) W' ρ' w' s v :=
  hg.mono h.size (fun b hb hn => ⟨fun hw => hw.elim (fun hk => hn (.inl hk)) (fun hw => (h.own b hw).elim (fun h1 => hn (.inr h1)) (fun h2 => by omega)), h.block b hb (fun hw => hn (.inr hw))⟩)
    (fun b hb hn => ⟨fun hw => (h.own b hw).elim hn (fun h2 => by omega), h.block b hb hn⟩) h.rho

theorem D.stp {Keep W W' : Nat → Prop} {ρ ρ' : Names} {w w' : World} (h : Stp W W' ρ ρ' w w') {s : SV} {v : Value}
    (hg : D (fun b => Keep b ∨ W b) w s v) : D (fun b => Keep b ∨ W' b) w' s v :=
  hg.mono h.size (fun b hb hn => ⟨fun hw => hw.elim (fun hk => hn (.inl hk)) (fun hw => (h.own b hw).elim (fun h1 => hn (.inr h1)) (fun h2 => by omega)), h.block b hb (fun hw => hn (.inr hw))⟩)

/-- Operation 'o', carried out, leaves a value of which 'R' holds. -/
def Does (P : Program) (o : Oper) (a : Act) (w : World) (R : Value → World → Prop) : Prop :=
  o.wp P a w (fun a' w' => ∃ v, a' = a.put o.dst v ∧ R v w') (fun _ _ _ => False)

theorem Does.value {P : Program} {o : Oper} {a : Act} {w w' : World} {R : Value → World → Prop} {v : Value}
    (h : (execOp a.eval o).run P w = .ok (.value v) w') (hr : R v w') : Does P o a w R := by
  unfold Does Oper.wp; rw [h]; exact ⟨v, rfl, hr⟩

theorem Does.skip {P : Program} {o : Oper} {a : Act} {w w' : World} {R : Value → World → Prop}
    (h : (execOp a.eval o).run P w = .ok .skip w') (hr : R undef w') : Does P o a w R := by
  unfold Does Oper.wp; rw [h]; exact ⟨undef, rfl, hr⟩

theorem Does.call {P : Program} {o : Oper} {a : Act} {w w' : World} {R : Value → World → Prop} {f : FuncId} {args : Array Value}
    (h : (execOp a.eval o).run P w = .ok (.enter f args) w') (hc : Calls P f args w' fun e w'' => ∃ v, e = .returned v ∧ R v w'') : Does P o a w R := by
  unfold Does Oper.wp; rw [h]
  refine hc.mono ?_
  rintro e w'' ⟨v, rfl, hr⟩
  exact ⟨v, rfl, hr⟩

theorem Does.mono {P : Program} {o : Oper} {a : Act} {w : World} {R R' : Value → World → Prop} (h : Does P o a w R) (hr : ∀ v w', R v w' → R' v w') : Does P o a w R' := by
  unfold Does at *
  exact Oper.wp_mono (fun a' w' ⟨v, e, r⟩ => ⟨v, e, hr v w' r⟩) h

/-- What 'o' leaves, and what follows. -/
theorem Does.wp {P : Program} {o : Oper} {a : Act} {w : World} {R : Value → World → Prop} {K : Act → World → Prop} {Q : Exit → Act → World → Prop}
    (h : Does P o a w R) (hk : ∀ v w', R v w' → K (a.put o.dst v) w') : o.wp P a w K Q := by
  unfold Does Oper.wp at *
  generalize (execOp a.eval o).run P w = r at *
  cases r with
  | ok n w' =>
    cases n <;> simp only [Oper.upon] at h ⊢
    case value v => obtain ⟨u, e, hr⟩ := h; rw [e]; exact hk u w' hr
    case skip => obtain ⟨u, e, hr⟩ := h; rw [e]; exact hk u w' hr
    case defer d => obtain ⟨u, e, hr⟩ := h; rw [e]; exact hk u w' hr
    case enter f args =>
      refine Calls.mono h ?_
      intro e w'' he
      cases e with
      | returned v => obtain ⟨u, e, hr⟩ := he; show K (a.put o.dst v) w''; rw [e]; exact hk u w'' hr
      | panicked c => exact he.elim
      | outgrown => obtain ⟨_, _, hf⟩ := he; exact hf.elim
    case row row args =>
      exact Rows.mono h (fun v w' ⟨u, e, hr⟩ => by show K (a.put o.dst v) w'; rw [e]; exact hk u w' hr)
  | halt x w' => cases x <;> simp only [Oper.upon] at h

/-- What an operation leaves, said of the blocks of one's own. -/
def After (Keep : Nat → Prop) (M : List (Nat × Mem)) (ρ : Names) (w : World) (κ : Nat) (s : SV) (md : MD) (v : Value) (w' : World) : Prop :=
  ∃ ρ', Stp (Own M ρ) (Own (appM M κ md) ρ') ρ ρ' w w' ∧ MemOK Keep (appM M κ md) ρ' w' ∧
    G (fun b => Keep b ∨ Own (appM M κ md) ρ' b) (Own (appM M κ md) ρ') ρ' w' s v ∧ ∀ k, (k < κ ∨ appK κ md ≤ k) → ρ' k = ρ k

def isPush : MD → Bool
  | .push _ => true
  | .repl _ _ => true
  | _ => false

/-- Operations of this form, with these operands, do this. -/
def OpOK (P : Program) (op : Op) (svs : List SV) (lm : Nat → Option Mem) (κ : Nat) (s : SV) (md : MD) : Prop :=
  ∀ (o : Oper), o.op = op → ∀ (Keep : Nat → Prop) (M : List (Nat × Mem)) (ρ : Names) (a : Act) (w : World),
    (∀ k m, lm k = some m → lookM M k = some m) → MemOK Keep M ρ w → (∀ k, κ ≤ k → k < appK κ md → ρ k = none) → (isPush md = true → ∀ m, (κ, m) ∉ M) →
    Gs (fun b => Keep b ∨ Own M ρ b) (Own M ρ) ρ w svs ((operandsL op).map a.eval) → Does P o a w (After Keep M ρ w κ s md)

theorem mem_lookM {M : List (Nat × Mem)} {k : Nat} {m : Mem} (h : lookM M k = some m) : (k, m) ∈ M := by
  induction M with
  | nil => simp [lookM] at h
  | cons x r ih =>
    obtain ⟨k', m'⟩ := x
    simp only [lookM] at h
    split at h
    · rename_i hb
      have := Nat.eq_of_beq_eq_true hb
      cases h; subst this; exact .head _
    · exact .tail _ (ih h)

/-- The world is as it was, and so are the blocks. -/
theorem After.same {Keep : Nat → Prop} {M : List (Nat × Mem)} {ρ : Names} {w : World} {κ : Nat} {s : SV} {v : Value} (hm : MemOK Keep M ρ w)
    (hg : G (fun b => Keep b ∨ Own M ρ b) (Own M ρ) ρ w s v) : After Keep M ρ w κ s .none v w :=
  ⟨ρ, .refl, hm, hg, fun _ _ => rfl⟩

end Go.Gs
/- What a symbolic value says, read back; blocks of one's own behind a change. -/
namespace Go.Gs

section inv
variable {S Pm : Nat → Prop} {ρ : Names} {w : World}

theorem D.val_inv {v u : Value} (h : D S w (.val v) u) : u = v := by cases h; rfl
theorem G.val_inv {v u : Value} (h : G S Pm ρ w (.val v) u) : u = v := by cases h with | d _ _ h => exact h.val_inv
theorem G.pr_inv {p : Prop} {i : Decidable p} {u : Value} (h : G S Pm ρ w (.pr p i) u) : u = .bool (@decide p i) := by
  cases h with | d _ _ h => cases h; rfl
theorem G.loc_inv {k off : Nat} {u : Value} (h : G S Pm ρ w (.loc k off) u) : ∃ b, ρ k = some (.pointer (some ⟨b, 0, none⟩)) ∧ u = .pointer (some ⟨b, off, none⟩) := by
  cases h with
  | d _ _ h => cases h
  | loc _ _ b h => exact ⟨b, h, rfl⟩
theorem G.own_inv {k : Nat} {u : Value} (h : G S Pm ρ w (.own k) u) : ρ k = some u ∧ u.oneCell' = true := by
  cases h with
  | d _ _ h => cases h
  | own _ _ h h1 => exact ⟨h, h1⟩
theorem G.eloc_inv {k sz off : Nat} {i : Int} {u : Value} (h : G S Pm ρ w (.eloc k sz i off) u) :
    ∃ b len cap, ρ k = some (.slice (some ⟨b, 0, none⟩) len cap) ∧ u = .pointer (some ⟨b, i.toNat * sz + off, none⟩) := by
  cases h with
  | d _ _ h => cases h
  | eloc _ _ _ _ b len cap h => exact ⟨b, len, cap, h, rfl⟩
theorem G.win_inv {k sz : Nat} {lo n : Int} {u : Value} (h : G S Pm ρ w (.win k sz lo n) u) :
    ∃ b len cap cap', ρ k = some (.slice (some ⟨b, 0, none⟩) len cap) ∧ u = .slice (some ⟨b, lo.toNat * sz, none⟩) n.toNat cap' ∧ lo.toNat + n.toNat ≤ len ∧ n.toNat ≤ cap' := by
  cases h with
  | d _ _ h => cases h
  | win _ _ _ _ b len cap cap' h h1 h2 => exact ⟨b, len, cap, cap', h, rfl, h1, h2⟩
theorem G.ptr_inv {cs : List SV} {u : Value} (h : G S Pm ρ w (.ptr cs) u) : ∃ b o, ∃ c : Nat → Value, u = .pointer (some ⟨b, o, none⟩) ∧ b < w.heap.size ∧ ¬ Pm b ∧
    (∀ j, j < cs.length → w.cell? ⟨b, o + j, none⟩ = some (c j) ∧ (c j).oneCell' = true) ∧ ∀ (j : Nat) (s : SV), cs[j]? = some s → D S w s (c j) := by
  cases h with
  | d _ _ h => cases h
  | ptr _ b o c hb hP hc h => exact ⟨b, o, c, rfl, hb, hP, hc, h⟩
theorem G.dptr_inv {cs : List SV} {u : Value} (h : G S Pm ρ w (.dptr cs) u) : ∃ b o, ∃ c : Nat → Value, u = .pointer (some ⟨b, o, none⟩) ∧ b < w.heap.size ∧ ¬ S b ∧
    (∀ j, j < cs.length → w.cell? ⟨b, o + j, none⟩ = some (c j) ∧ (c j).oneCell' = true) ∧ ∀ (j : Nat) (s : SV), cs[j]? = some s → D S w s (c j) := by
  cases h with
  | d _ _ h => cases h with | dptr _ b o c hb hS hc h => exact ⟨b, o, c, rfl, hb, hS, hc, h⟩
theorem G.dfn_inv {f : FuncId} {cs : List SV} {u : Value} (h : G S Pm ρ w (.dfn f cs) u) : ∃ vs : List Value, u = .func (.func f) #[] vs.toArray ∧ Gs S Pm ρ w cs vs := by
  cases h with
  | d _ _ h => cases h with | dfn _ _ vs hl h => exact ⟨vs, rfl, hl, fun j s v h1 h2 => .d _ _ (h j s v h1 h2)⟩
theorem G.ifc_inv {t : TypeId} {s : SV} {u : Value} (h : G S Pm ρ w (.ifc t s) u) : ∃ v, u = .iface t v ∧ G S Pm ρ w s v := by
  cases h with
  | d _ _ h => cases h with | ifc _ _ v h => exact ⟨v, rfl, .d _ _ h⟩
  | ifc _ _ v h => exact ⟨v, rfl, h⟩
theorem G.agg_inv {cs : List SV} {u : Value} (h : G S Pm ρ w (.agg cs) u) : ∃ vs : List Value, u = .agg vs.toArray ∧ Gs S Pm ρ w cs vs := by
  cases h with
  | d _ _ h => cases h with | agg _ vs hl h => exact ⟨vs, rfl, hl, fun j s v hs hv => .d _ _ (h j s v hs hv)⟩
  | agg _ vs hl h => exact ⟨vs, rfl, hl, h⟩
theorem G.tup_inv {cs : List SV} {u : Value} (h : G S Pm ρ w (.tup cs) u) : ∃ vs : List Value, u = .tuple vs.toArray ∧ Gs S Pm ρ w cs vs := by
  cases h with
  | d _ _ h => cases h
  | tup _ vs hl h => exact ⟨vs, rfl, hl, h⟩
theorem G.fn_inv {f : FuncId} {cs : List SV} {u : Value} (h : G S Pm ρ w (.fn f cs) u) : ∃ vs : List Value, u = .func (.func f) #[] vs.toArray ∧ Gs S Pm ρ w cs vs := by
  cases h with
  | d _ _ h => cases h
  | fn _ _ vs hl h => exact ⟨vs, rfl, hl, h⟩
theorem G.sl_inv {α : Type} {enc : α → List SV} {xs : List α} {u : Value} (h : G S Pm ρ w (.sl enc xs) u) : D S w (.sl enc xs) u := by
  cases h with | d _ _ h => exact h
theorem D.sl_inv {α : Type} {enc : α → List SV} {xs : List α} {u : Value} (h : D S w (.sl enc xs) u) :
    (xs = [] ∧ ∃ a, u = .slice a 0 0) ∨ ∃ sz b o cap, ∃ c : Nat → Nat → Value, u = .slice (some ⟨b, o, none⟩) xs.length cap ∧ b < w.heap.size ∧ ¬ S b ∧ xs.length ≤ 9223372036854775807 ∧ xs.length ≤ cap ∧
      (∀ x ∈ xs, (enc x).length = sz) ∧ (∀ i j, i < xs.length → j < sz → w.cell? ⟨b, o + i * sz + j, none⟩ = some (c i j) ∧ (c i j).oneCell' = true) ∧
      ∀ (i j : Nat) (x : α) (s : SV), xs[i]? = some x → (enc x)[j]? = some s → D S w s (c i j) := by
  cases h with
  | nil _ a => exact .inl ⟨rfl, a, rfl⟩
  | sl _ _ sz b o cap c hb hS hlen hcap hsz hc h => exact .inr ⟨sz, b, o, cap, c, rfl, hb, hS, hlen, hcap, hsz, hc, h⟩

theorem G.nils_inv {u : Value} (h : G S Pm ρ w .nils u) : ∃ a, u = .slice a 0 0 := by
  cases h with | d _ _ h => cases h with | nils a => exact ⟨a, rfl⟩

theorem G.full_inv {α : Type} {enc : α → List SV} {xs : List α} {u : Value} (h : G S Pm ρ w (.full enc xs) u) : ∃ a, u = .slice a xs.length xs.length ∧ D S w (.sl enc xs) u := by
  cases h with | d _ _ h => cases h with | full _ _ a h => exact ⟨a, rfl, h⟩

theorem G.anyb_inv {u : Value} (h : G S Pm ρ w .anyb u) : ∃ b, u = .bool b := by
  cases h with | d _ _ h => cases h with | anyb b => exact ⟨b, rfl⟩

theorem Gs.nil : Gs S Pm ρ w [] [] := ⟨rfl, fun _ _ _ h => by simp at h⟩
theorem Gs.cons {s : SV} {v : Value} {cs : List SV} {vs : List Value} (h : G S Pm ρ w s v) (hs : Gs S Pm ρ w cs vs) : Gs S Pm ρ w (s :: cs) (v :: vs) :=
  ⟨by simp [hs.1], fun j s' v' h1 h2 => by
    cases j with
    | zero => simp at h1 h2; subst h1; subst h2; exact h
    | succ j => simp at h1 h2; exact hs.2 j s' v' h1 h2⟩
theorem Gs.head {s : SV} {v : Value} {cs : List SV} {vs : List Value} (h : Gs S Pm ρ w (s :: cs) (v :: vs)) : G S Pm ρ w s v := h.2 0 s v rfl rfl
theorem Gs.tail {s : SV} {v : Value} {cs : List SV} {vs : List Value} (h : Gs S Pm ρ w (s :: cs) (v :: vs)) : Gs S Pm ρ w cs vs :=
  ⟨by simpa using h.1, fun j s' v' h1 h2 => h.2 (j + 1) s' v' (by simpa using h1) (by simpa using h2)⟩
theorem Gs.cons_inv {s : SV} {cs : List SV} {vs : List Value} (h : Gs S Pm ρ w (s :: cs) vs) : ∃ v vs', vs = v :: vs' ∧ G S Pm ρ w s v ∧ Gs S Pm ρ w cs vs' := by
  cases vs with
  | nil => simp [Gs] at h
  | cons v vs => exact ⟨v, vs, rfl, h.head, h.tail⟩
theorem Gs.nil_inv {vs : List Value} (h : Gs S Pm ρ w [] vs) : vs = [] := by simpa [Gs] using h.1
theorem Gs.append {cs ds : List SV} {vs us : List Value} (h : Gs S Pm ρ w cs vs) (k : Gs S Pm ρ w ds us) : Gs S Pm ρ w (cs ++ ds) (vs ++ us) := by
  induction cs generalizing vs with
  | nil => rw [h.nil_inv]; exact k
  | cons s cs ih => obtain ⟨v, vs', rfl, h1, h2⟩ := h.cons_inv; exact .cons h1 (ih h2)
theorem Gs.append_inv {cs ds : List SV} {vs : List Value} (h : Gs S Pm ρ w (cs ++ ds) vs) : ∃ us us', vs = us ++ us' ∧ Gs S Pm ρ w cs us ∧ Gs S Pm ρ w ds us' := by
  induction cs generalizing vs with
  | nil => exact ⟨[], vs, rfl, .nil, h⟩
  | cons s cs ih =>
    obtain ⟨v, vs', rfl, h1, h2⟩ := h.cons_inv
    obtain ⟨us, us', rfl, h3, h4⟩ := ih h2
    exact ⟨v :: us, us', rfl, .cons h1 h3, h4⟩
theorem Gs.drop {cs : List SV} {vs : List Value} (n : Nat) (h : Gs S Pm ρ w cs vs) : Gs S Pm ρ w (cs.drop n) (vs.drop n) :=
  ⟨by simp [h.1], fun j s v h1 h2 => h.2 (n + j) s v (by simpa using h1) (by simpa using h2)⟩
theorem Gs.take {cs : List SV} {vs : List Value} (n : Nat) (h : Gs S Pm ρ w cs vs) : Gs S Pm ρ w (cs.take n) (vs.take n) :=
  ⟨by simp [h.1], fun j s v h1 h2 => by
    rw [List.getElem?_take] at h1 h2
    split at h1
    · rename_i hj; rw [if_pos hj] at h2; exact h.2 j s v h1 h2
    · cases h1⟩
theorem Gs.vals (l : List Value) : Gs S Pm ρ w (vals l) l :=
  ⟨by simp [Go.Gs.vals], fun j s v h1 h2 => by
    simp [Go.Gs.vals, h2] at h1; subst h1; exact .d _ _ (.val v)⟩
theorem Gs.mono' {S' Pm' : Nat → Prop} {ρ' : Names} {w' : World} {cs : List SV} {vs : List Value} (h : Gs S Pm ρ w cs vs)
    (hg : ∀ s v, G S Pm ρ w s v → G S' Pm' ρ' w' s v) : Gs S' Pm' ρ' w' cs vs := ⟨h.1, fun j s v h1 h2 => hg s v (h.2 j s v h1 h2)⟩
end inv

/-- 'force' changes nothing. -/
theorem force_elim {s : SV} {K : SV → Prop} (h : force s K) : K s := by
  cases s with
  | val v => cases v with
    | bool b => cases b <;> exact h
    | _ => exact h
  | _ => exact h

theorem guardB_elim {b : Bool} {K : Prop} (h : guardB b K) : b = true ∧ K := by cases b <;> first | exact h.elim | exact ⟨rfl, h⟩
theorem andB_elim {a b : Bool} (h : andB a b = true) : a = true ∧ b = true := by cases a <;> simp_all [andB]
theorem withT_elim {Γ : List (TypeId × TI)} {t : TypeId} {K : TI → Prop} (h : withT Γ t K) : ∃ i, ti Γ t = some i ∧ K i := by
  unfold withT at h; split at h
  · exact ⟨_, ‹_›, h⟩
  · exact h.elim

/-! ### The table of types -/
def KindOK (P : Program) (t : TypeId) : TK → Prop
  | .int k => P.underlying t = some (.int k)
  | .bool => P.underlying t = some .bool
  | .str => P.underlying t = some .string
  | .ptr e => P.underlying t = some (.pointer e)
  | .slice e => P.underlying t = some (.slice e)
  | .struct fs => ∃ F, P.underlying t = some (.struct F) ∧ F.toList.map (fun f => (f.offset, f.type)) = fs ∧ ∃ pl, F.toList.mapM (fun f => (P.info? f.type).map fun i => (f.offset, i.size)) = some pl
  | .arr n e => P.underlying t = some (.array n e)
  | .map k e => P.underlying t = some (.map k e)
  | .iface => ∃ ms, P.underlying t = some (.interface ms)
  | .other => ∃ d, P.underlying t = some d ∧ ∀ w : World, (isAgg t).run P w = .ok false w

structure TOne (P : Program) (t : TypeId) (i : TI) : Prop where
  inf : ∃ f, P.info? t = some f ∧ f.size = i.sz ∧ f.bytes = i.bytes ∧ ∃ z, f.zero = some z ∧ z.cells.toList = i.zero ∧ (i.kind.agg = false → z.cells = #[z]) ∧ i.zero.length = i.sz ∧
    ∀ v ∈ i.zero, v.oneCell' = true
  kind : KindOK P t i.kind
  zagg : i.kind.agg = true → ∃ f, P.info? t = some f ∧ f.zero = some (.agg i.zero.toArray)
  cmp : i.cmp = true → P.stoodInHeld t = false ∧ P.eqGuardType P.depth t = false ∧ ∀ f ∈ (P.fieldsOf t).toList, f.name ≠ "_"

def TOK (P : Program) (Γ : List (TypeId × TI)) : Prop := ∀ t i, ti Γ t = some i → TOne P t i

section types
variable {P : Program} {t : TypeId} {i : TI}
theorem TOne.size (h : TOne P t i) (w : World) : (sizeOf t).run P w = .ok i.sz w := by
  obtain ⟨f, h1, h2, _⟩ := h.inf
  simp [sizeOf, typeInfo, h1, h2]
theorem TOne.agg (h : TOne P t i) (w : World) : (isAgg t).run P w = .ok i.kind.agg w := by
  have hk := h.kind
  cases hi : i.kind <;> rw [hi] at hk <;> simp only [KindOK] at hk
  case struct fs => obtain ⟨F, hF, _⟩ := hk; simp [isAgg, run_underlying hF, TK.agg]
  case other => obtain ⟨d, hd, ha⟩ := hk; exact ha w
  case iface => obtain ⟨ms, hd⟩ := hk; simp [isAgg, run_underlying hd, TK.agg]
  all_goals simp [isAgg, run_underlying hk, TK.agg]
theorem TOne.und (h : TOne P t i) : ∃ d, P.underlying t = some d := by
  have hk := h.kind
  cases hi : i.kind <;> rw [hi] at hk <;> simp only [KindOK] at hk
  case struct fs => exact ⟨_, hk.choose_spec.1⟩
  case other => obtain ⟨d, hd, _⟩ := hk; exact ⟨d, hd⟩
  case iface => obtain ⟨ms, hd⟩ := hk; exact ⟨_, hd⟩
  all_goals exact ⟨_, hk⟩
end types

/-! ### Blocks of one's own behind a change -/
theorem MRel.keep {Keep W W' : Nat → Prop} {ρ ρ' : Names} {w w' : World} {k : Nat} {m : Mem} (hs : Stp W W' ρ ρ' w w') (hk : ρ' k = ρ k)
    (hb : ∀ v b, ρ k = some v → blkOf v = some b → w'.heap[b]? = w.heap[b]?)
    (h : MRel (fun b => Keep b ∨ W b) W ρ w k m) : MRel (fun b => Keep b ∨ W' b) W' ρ' w' k m := by
  cases m with
  | box T cs =>
    obtain ⟨b, vs, h1, h2, h3, h4, h5⟩ := h
    exact ⟨b, vs, hk.trans h1, (hb _ b h1 rfl).trans h2, h3, h4, fun j s v hs' hv => (h5 j s v hs' hv).stp hs⟩
  | arr T enc sz xs =>
    obtain ⟨v, cells, h1, h2, h3, h4, h5, h6⟩ := h
    refine ⟨v, cells, hk.trans h1, ⟨h2.1, ?_⟩, h3, h4, h5, fun i j x s hx hj => ?_⟩
    · rcases h2.2 with h | ⟨g, cap, cur, rfl, h7, h8, h9⟩
      · exact .inl h
      · exact .inr ⟨g, cap, cur, rfl, h7, (hb _ g h1 rfl).trans h8, h9⟩
    · obtain ⟨u, hu, hd⟩ := h6 i j x s hx hj
      exact ⟨u, hu, hd.stp hs⟩
  | garr T sz xs =>
    obtain ⟨v, cells, h1, h2, h3, h4, h5, h6⟩ := h
    refine ⟨v, cells, hk.trans h1, ⟨h2.1, ?_⟩, h3, h4, h5, fun i j x s hx hj => ?_⟩
    · rcases h2.2 with h | ⟨g, cap, cur, rfl, h7, h8, h9⟩
      · exact .inl h
      · exact .inr ⟨g, cap, cur, rfl, h7, (hb _ g h1 rfl).trans h8, h9⟩
    · obtain ⟨u, hu, hd⟩ := h6 i j x s hx hj
      exact ⟨u, hu, hd.stp hs⟩
  | map es =>
    obtain ⟨r, ents, clock, h1, h2, h3, h4⟩ := h
    refine ⟨r, ents, clock, hk.trans h1, (hb _ r h1 rfl).trans h2, h3, fun i n s hi => ?_⟩
    obtain ⟨e, g1, g2, g3⟩ := h4 i n s hi
    exact ⟨e, g1, g2, g3.stp hs⟩

theorem MemOK.next {Keep : Nat → Prop} {M M' : List (Nat × Mem)} {ρ ρ' : Names} {w w' : World} (κ : Nat) (hm : MemOK Keep M ρ w)
    (hs : Stp (Own M ρ) (Own M' ρ') ρ ρ' w w') (hkeys : M'.Pairwise fun a b => a.1 ≠ b.1)
    (hold : ∀ k m, (k, m) ∈ M' → k ≠ κ → (k, m) ∈ M ∧ ρ' k = ρ k ∧ ∀ v b, ρ k = some v → blkOf v = some b → w'.heap[b]? = w.heap[b]?)
    (hnew : ∀ m, (κ, m) ∈ M' → MRel (fun b => Keep b ∨ Own M' ρ' b) (Own M' ρ') ρ' w' κ m)
    (hap : ∀ m v b, (κ, m) ∈ M' → ρ' κ = some v → blkOf v = some b →
      (∀ k m v', (k, m) ∈ M' → k ≠ κ → ρ k = some v' → blkOf v' ≠ some b) ∧ b < w'.heap.size ∧ ¬ Keep b) : MemOK Keep M' ρ' w' where
  rel k m hkm := by
    by_cases hk : k = κ
    · subst hk; exact hnew m hkm
    · obtain ⟨h1, h2, h3⟩ := hold k m hkm hk
      exact (hm.rel k m h1).keep hs h2 h3
  keys := hkeys
  apart k m k' m' v v' b h1 h2 hne hv hv' hb hb' := by
    by_cases hk : k = κ
    · subst hk
      have hk' : k' ≠ k := Ne.symm hne
      obtain ⟨_, h3, _⟩ := hold k' m' h2 hk'
      exact (hap m v b h1 hv hb).1 k' m' v' h2 hk' (h3 ▸ hv') hb'
    · by_cases hk' : k' = κ
      · subst hk'
        obtain ⟨_, h3, _⟩ := hold k m h1 hk
        exact (hap m' v' b h2 hv' hb').1 k m v h1 hk (h3 ▸ hv) hb
      · obtain ⟨h3, h4, _⟩ := hold k m h1 hk
        obtain ⟨h5, h6, _⟩ := hold k' m' h2 hk'
        exact hm.apart k m k' m' v v' b h3 h5 hne (h4 ▸ hv) (h6 ▸ hv') hb hb'
  old b hb := by
    obtain ⟨k, m, v, h1, h2, h3⟩ := hb
    by_cases hk : k = κ
    · subst hk; exact (hap m v b h1 h2 h3).2
    · obtain ⟨h4, h5, _⟩ := hold k m h1 hk
      have := hm.old b ⟨k, m, v, h4, h5 ▸ h2, h3⟩
      exact ⟨Nat.lt_of_lt_of_le this.1 hs.size, this.2⟩
  kp b hb := Nat.lt_of_lt_of_le (hm.kp b hb) hs.size

theorem mem_dropM {M : List (Nat × Mem)} {k : Nat} (x : Nat × Mem) (h : x ∈ dropM M k) : x ∈ M := by
  induction M with
  | nil => exact h
  | cons y r ih =>
    obtain ⟨k', m'⟩ := y
    simp only [dropM] at h
    split at h
    · exact .tail _ h
    · cases h with
      | head => exact .head _
      | tail _ h => exact .tail _ (ih h)
theorem dropM_ne {M : List (Nat × Mem)} {k : Nat} (hp : M.Pairwise fun a b => a.1 ≠ b.1) (x : Nat × Mem) (h : x ∈ dropM M k) : x.1 ≠ k := by
  induction M with
  | nil => cases h
  | cons y r ih =>
    obtain ⟨k', m'⟩ := y
    rw [List.pairwise_cons] at hp
    simp only [dropM] at h
    split at h
    · rename_i hb
      have := Nat.eq_of_beq_eq_true hb
      subst this
      exact fun e => hp.1 x h e.symm
    · rename_i hb
      cases h with
      | head => exact Nat.ne_of_beq_eq_false hb
      | tail _ h => exact ih hp.2 h
theorem pairwise_dropM {M : List (Nat × Mem)} {k : Nat} (hp : M.Pairwise fun a b => a.1 ≠ b.1) : (dropM M k).Pairwise fun a b => a.1 ≠ b.1 := by
  induction M with
  | nil => exact hp
  | cons y r ih =>
    obtain ⟨k', m'⟩ := y
    rw [List.pairwise_cons] at hp
    simp only [dropM]
    split
    · exact hp.2
    · rw [List.pairwise_cons]
      exact ⟨fun x hx => hp.1 x (mem_dropM x hx), ih hp.2⟩
theorem mem_setM {M : List (Nat × Mem)} {k : Nat} {m : Mem} (hp : M.Pairwise fun a b => a.1 ≠ b.1) (x : Nat × Mem) (h : x ∈ setM M k m) : x.1 ≠ k ∧ x ∈ M ∨ x = (k, m) := by
  induction M with
  | nil => cases h
  | cons y r ih =>
    obtain ⟨k', m'⟩ := y
    rw [List.pairwise_cons] at hp
    simp only [setM] at h
    split at h
    · rename_i hb
      have := Nat.eq_of_beq_eq_true hb
      subst this
      cases h with
      | head => exact .inr rfl
      | tail _ h => exact .inl ⟨fun e => hp.1 x h e.symm, .tail _ h⟩
    · rename_i hb
      cases h with
      | head => exact .inl ⟨Nat.ne_of_beq_eq_false hb, .head _⟩
      | tail _ h => exact (ih hp.2 h).imp (fun h => ⟨h.1, .tail _ h.2⟩) id
theorem keys_setM {M : List (Nat × Mem)} {k : Nat} {m : Mem} : (setM M k m).map (·.1) = M.map (·.1) := by
  induction M with
  | nil => rfl
  | cons y r ih =>
    obtain ⟨k', m'⟩ := y
    simp only [setM]
    split
    · rename_i hb
      have := Nat.eq_of_beq_eq_true hb
      subst this; rfl
    · simp [ih]
theorem pairwise_keys {M M' : List (Nat × Mem)} (h : M'.map (·.1) = M.map (·.1)) (hp : M.Pairwise fun a b => a.1 ≠ b.1) : M'.Pairwise fun a b => a.1 ≠ b.1 := by
  have h1 : (M.map (·.1)).Pairwise fun a b => a ≠ b := List.pairwise_map.2 hp
  rw [← h] at h1
  exact List.pairwise_map.1 h1
theorem own_keys {M M' : List (Nat × Mem)} (h : M'.map (·.1) = M.map (·.1)) {ρ : Names} {b : Nat} (ho : Own M ρ b) : Own M' ρ b := by
  obtain ⟨k, m, v, h1, h2, h3⟩ := ho
  have : k ∈ M'.map (·.1) := by rw [h]; exact List.mem_map.2 ⟨_, h1, rfl⟩
  obtain ⟨⟨k', m'⟩, hx, rfl⟩ := List.mem_map.1 this
  exact ⟨_, m', v, hx, h2, h3⟩
theorem lookM_of_mem {M : List (Nat × Mem)} {k : Nat} {m : Mem} (hp : M.Pairwise fun a b => a.1 ≠ b.1) (h : (k, m) ∈ M) : lookM M k = some m := by
  induction M with
  | nil => cases h
  | cons y r ih =>
    obtain ⟨k', m'⟩ := y
    rw [List.pairwise_cons] at hp
    simp only [lookM]
    cases h with
    | head => simp [Nat.beq_refl]
    | tail _ h =>
      have hne : k' ≠ k := hp.1 _ h
      have : Nat.beq k' k = false := by
        cases hb : Nat.beq k' k with
        | false => rfl
        | true => exact absurd (Nat.eq_of_beq_eq_true hb) hne
      simp [this, ih hp.2 h]

theorem pairwise_cons_ne {M : List (Nat × Mem)} {k : Nat} {m : Mem} (hp : M.Pairwise fun a b => a.1 ≠ b.1) (h : ∀ m, (k, m) ∉ M) : ((k, m) :: M).Pairwise fun a b => a.1 ≠ b.1 :=
  List.pairwise_cons.2 ⟨fun x hx e => by obtain ⟨k', m'⟩ := x; have e : k = k' := e; subst e; exact h m' hx, hp⟩

def upd (ρ : Names) (κ : Nat) (v : Value) : Names := fun k => if k = κ then some v else ρ k


theorem upd_same {ρ : Names} {κ : Nat} {v : Value} : upd ρ κ v κ = some v := by simp [upd]
theorem upd_ne {ρ : Names} {κ k : Nat} {v : Value} (h : k ≠ κ) : upd ρ κ v k = ρ k := by simp [upd, h]

/-- A block of one's own is written. -/
theorem MemOK.write {Keep : Nat → Prop} {M : List (Nat × Mem)} {ρ : Names} {w : World} (hm : MemOK Keep M ρ w) {k : Nat} {m : Mem} (m' : Mem) (hk : (k, m) ∈ M) {v : Value} {b : Nat}
    (hv : ρ k = some v) (hb : blkOf v = some b) (cs : Array Value)
    (hrel : Stp (Own M ρ) (Own (setM M k m') ρ) ρ ρ w (w.setRow b cs) → MRel (fun b => Keep b ∨ Own (setM M k m') ρ b) (Own (setM M k m') ρ) ρ (w.setRow b cs) k m') :
    Stp (Own M ρ) (Own (setM M k m') ρ) ρ ρ w (w.setRow b cs) ∧ MemOK Keep (setM M k m') ρ (w.setRow b cs) := by
  have hkeys : (setM M k m').map (·.1) = M.map (·.1) := keys_setM
  have hs : Stp (Own M ρ) (Own (setM M k m') ρ) ρ ρ w (w.setRow b cs) :=
    ⟨rfl, rfl, .setRow _ _ _, by simp, fun b' _ hn => setRow_other w b b' cs (fun e => hn ⟨k, m, v, hk, hv, e ▸ hb⟩), fun b' hb' => .inl (own_keys hkeys.symm hb'), fun _ _ h => h⟩
  refine ⟨hs, MemOK.next k hm hs (pairwise_keys hkeys hm.keys) ?_ ?_ ?_⟩
  · intro k' m1 h1 hne
    rcases mem_setM hm.keys _ h1 with ⟨_, h2⟩ | h2
    · refine ⟨h2, rfl, fun v' b' hv' hb' => setRow_other w b b' cs (fun e => ?_)⟩
      subst e
      exact hm.apart k' m1 k m v' v b' h2 hk hne hv' hv hb' hb
    · cases h2; exact absurd rfl hne
  · intro m1 h1
    rcases mem_setM hm.keys _ h1 with ⟨h2, _⟩ | h2
    · exact absurd rfl h2
    · cases h2; exact hrel hs
  · intro m1 v' b' _ hv' hb'
    rw [hv] at hv'; cases hv'
    rw [hb] at hb'; cases hb'
    refine ⟨fun k' m2 v2 h2 hne hv2 hb2 => ?_, by simpa using (hm.old b ⟨k, m, v, hk, hv, hb⟩).1, (hm.old b ⟨k, m, v, hk, hv, hb⟩).2⟩
    rcases mem_setM hm.keys _ h2 with ⟨_, h3⟩ | h3
    · exact hm.apart k' m2 k m v2 v b h3 hk hne hv2 hv hb2 hb
    · cases h3; exact absurd rfl hne

/-- A new block of one's own; some may be let go. -/
theorem MemOK.grow {Keep : Nat → Prop} {M M1 : List (Nat × Mem)} {ρ : Names} {w : World} (hm : MemOK Keep M ρ w) (hsub : ∀ x ∈ M1, x ∈ M) (hpw : M1.Pairwise fun a b => a.1 ≠ b.1)
    {κ : Nat} (hκ : ρ κ = none) (hκM : ∀ m, (κ, m) ∉ M) (v : Value) (m : Mem) (w' : World) (hos : w'.os = w.os) (htape : w'.tape = w.tape) (hout : SameOut w w')
    (hsize : w.heap.size ≤ w'.heap.size) (hblock : ∀ b, b < w.heap.size → ¬ Own M ρ b → w'.heap[b]? = w.heap[b]?)
    (hkeep : ∀ k m v b, (k, m) ∈ M1 → ρ k = some v → blkOf v = some b → w'.heap[b]? = w.heap[b]?)
    (hv : ∀ b, blkOf v = some b → (Own M ρ b ∨ w.heap.size ≤ b) ∧ b < w'.heap.size ∧ ∀ k m v', (k, m) ∈ M1 → ρ k = some v' → blkOf v' ≠ some b)
    (hrel : Stp (Own M ρ) (Own ((κ, m) :: M1) (upd ρ κ v)) ρ (upd ρ κ v) w w' →
      MRel (fun b => Keep b ∨ Own ((κ, m) :: M1) (upd ρ κ v) b) (Own ((κ, m) :: M1) (upd ρ κ v)) (upd ρ κ v) w' κ m) :
    Stp (Own M ρ) (Own ((κ, m) :: M1) (upd ρ κ v)) ρ (upd ρ κ v) w w' ∧ MemOK Keep ((κ, m) :: M1) (upd ρ κ v) w' := by
  have hne : ∀ k m, (k, m) ∈ M1 → k ≠ κ := fun k m h e => by subst e; exact hκM m (hsub _ h)
  have hs : Stp (Own M ρ) (Own ((κ, m) :: M1) (upd ρ κ v)) ρ (upd ρ κ v) w w' := by
    refine ⟨hos, htape, hout, hsize, hblock, ?_, ?_⟩
    · rintro b ⟨k, m', v', hk, hv', hb⟩
      cases hk with
      | head => rw [upd_same] at hv'; cases hv'; exact (hv b hb).1
      | tail _ hk => rw [upd_ne (hne _ _ hk)] at hv'; exact .inl ⟨k, m', v', hsub _ hk, hv', hb⟩
    · intro k v' h
      rw [upd_ne (fun e => by subst e; rw [hκ] at h; cases h)]; exact h
  refine ⟨hs, MemOK.next κ hm hs (pairwise_cons_ne hpw fun m h => hκM m (hsub _ h)) ?_ ?_ ?_⟩
  · intro k m' h hk
    cases h with
    | head => exact absurd rfl hk
    | tail _ h => exact ⟨hsub _ h, upd_ne hk, fun v' b h1 h2 => hkeep k m' v' b h h1 h2⟩
  · intro m' h
    cases h with
    | head => exact hrel hs
    | tail _ h => exact absurd rfl (hne _ _ h)
  · intro m' v' b _ h1 h2
    rw [upd_same] at h1; cases h1
    obtain ⟨h3, h4, h5⟩ := hv b h2
    refine ⟨fun k m1 v1 h6 h7 h8 => ?_, h4, fun hk => ?_⟩
    · cases h6 with
      | head => exact absurd rfl h7
      | tail _ h6 => exact h5 k m1 v1 h6 h8
    · rcases h3 with h3 | h3
      · exact (hm.old b h3).2 hk
      · have := hm.kp b hk; omega

/-- A block of one's own is let go. -/
theorem MemOK.let_go {Keep : Nat → Prop} {M M1 : List (Nat × Mem)} {ρ : Names} {w : World} (hm : MemOK Keep M ρ w) (hsub : ∀ x ∈ M1, x ∈ M) (hpw : M1.Pairwise fun a b => a.1 ≠ b.1) :
    Stp (Own M ρ) (Own M1 ρ) ρ ρ w w ∧ MemOK Keep M1 ρ w := by
  have hs : Stp (Own M ρ) (Own M1 ρ) ρ ρ w w :=
    ⟨rfl, rfl, .refl _, Nat.le_refl _, fun _ _ _ => rfl, fun b ⟨k, m, v, h1, h2, h3⟩ => .inl ⟨k, m, v, hsub _ h1, h2, h3⟩, fun _ _ h => h⟩
  exact ⟨hs, fun k m h => (hm.rel k m (hsub _ h)).keep hs rfl (fun _ _ _ _ => rfl), hpw,
    fun k m k' m' v v' b h1 h2 => hm.apart k m k' m' v v' b (hsub _ h1) (hsub _ h2), fun b ⟨k, m, v, h1, h2, h3⟩ => hm.old b ⟨k, m, v, hsub _ h1, h2, h3⟩, hm.kp⟩

end Go.Gs
/- The operations on numbers: what is left to be shown is enough. -/
namespace Go.Gs

theorem kBeq_eq {k k' : IntKind} (h : kBeq k k' = true) : k = k' := by cases k <;> cases k' <;> first | rfl | (simp [kBeq] at h)

def InK (k : IntKind) (e : Int) : Prop :=
  match k with
  | .i64 => -9223372036854775808 ≤ e ∧ e ≤ 9223372036854775807
  | .i32 => -2147483648 ≤ e ∧ e ≤ 2147483647
  | .i16 => -32768 ≤ e ∧ e ≤ 32767
  | .i8 => -128 ≤ e ∧ e ≤ 127
  | .u64 => 0 ≤ e ∧ e ≤ 18446744073709551615
  | .u32 => 0 ≤ e ∧ e ≤ 4294967295
  | .u16 => 0 ≤ e ∧ e ≤ 65535
  | .u8 => 0 ≤ e ∧ e ≤ 255

theorem wrap_fit {k : IntKind} {e : Int} (h : InK k e) : k.wrap e = e := by
  cases k <;> simp only [InK] at h <;> simp [IntKind.wrap, IntKind.bits, IntKind.signed] <;> (try split) <;> omega

theorem fitK_elim {k : IntKind} {e : Int} {K : SV → Prop} (h : fitK k e K) : K (.val (.int k (k.wrap e))) := by
  cases k <;> simp only [fitK] at h <;> cases h with
  | fit h1 h2 => rw [wrap_fit (by exact h1)]; exact h2
  | wrap h => exact h

/-- A value that bears no address. -/
def Good (s : SV) (v : Value) : Prop := (∃ u, s = .val u ∧ v = u) ∨ ∃ p i, s = .pr p i ∧ v = .bool (@decide p i)
theorem Good.g {s : SV} {v : Value} (h : Good s v) {S Pm : Nat → Prop} {ρ : Names} {w : World} : G S Pm ρ w s v := by
  rcases h with ⟨u, rfl, rfl⟩ | ⟨p, i, rfl, rfl⟩
  · exact .d _ _ (.val _)
  · exact .d _ _ (.pr p i)
theorem Good.val (v : Value) : Good (.val v) v := .inl ⟨v, rfl, rfl⟩
theorem Good.pr {p : Prop} {i : Decidable p} {b : Bool} (h : b = @decide p i) : Good (.pr p i) (.bool b) := .inr ⟨p, i, rfl, by rw [h]⟩

theorem kmax_in {k : IntKind} {e : Int} (h0 : 0 ≤ e) (h1 : e ≤ kmax k) : InK k e := by cases k <;> simp only [kmax, InK] at * <;> omega

theorem intV_sound {op : BinOp} {k : IntKind} {m n : Int} {K : SV → Prop} (hs : isShift op = false) (h : intV op k m n K) :
    ∃ s, K s ∧ ∃ v, Good s v ∧ ∀ (P : Program) (t : TypeId) (w : World), (binOp op t (.int k m) (.int k n)).run P w = .ok v w := by
  cases op <;> simp only [intV] at h <;> try (exact h.elim)
  case add => exact ⟨_, fitK_elim h, _, .val _, fun P t w => by simp [binOp, Op.intArith]⟩
  case sub => exact ⟨_, fitK_elim h, _, .val _, fun P t w => by simp [binOp, Op.intArith]⟩
  case mul => exact ⟨_, fitK_elim h, _, .val _, fun P t w => by simp [binOp, Op.intArith]⟩
  case quo =>
    cases h with
    | pos h1 h2 =>
      refine ⟨_, h2, _, .val _, fun P t w => ?_⟩
      have h3 : n ≠ 0 := by omega
      have h4 : m.tdiv n = m / n := Int.tdiv_eq_ediv_of_nonneg h1.1
      have h5 : 0 ≤ m / n := Int.ediv_nonneg h1.1 (by omega)
      have h6 : m / n ≤ m := Int.ediv_le_self n h1.1
      simp [binOp, Op.intDiv, h3, h4, wrap_fit (kmax_in h5 (Int.le_trans h6 h1.2.2))]
    | any h1 h2 => exact ⟨_, fitK_elim h2, _, .val _, fun P t w => by simp [binOp, Op.intDiv, h1]⟩
  case rem =>
    cases h with
    | pos h1 h2 =>
      refine ⟨_, h2, _, .val _, fun P t w => ?_⟩
      have h3 : n ≠ 0 := by omega
      have h4 : m.tmod n = m % n := Int.tmod_eq_emod_of_nonneg h1.1
      simp [binOp, Op.intDiv, h3, h4]
    | any h1 h2 => exact ⟨_, h2, _, .val _, fun P t w => by simp [binOp, Op.intDiv, h1]⟩
  case eql => exact ⟨_, h, .bool (m == n), .pr (by rw [Bool.eq_iff_iff]; simp), fun P t w => by simp [binOp, Op.intCmp]⟩
  case neq => exact ⟨_, h, .bool (m != n), .pr (by rw [Bool.eq_iff_iff]; simp), fun P t w => by simp [binOp, Op.intCmp]⟩
  case lss => exact ⟨_, h, .bool (decide (m < n)), .pr rfl, fun P t w => by simp [binOp, Op.intCmp]⟩
  case leq => exact ⟨_, h, .bool (decide (m ≤ n)), .pr rfl, fun P t w => by simp [binOp, Op.intCmp]⟩
  case gtr => exact ⟨_, h, .bool (decide (m > n)), .pr rfl, fun P t w => by simp [binOp, Op.intCmp]⟩
  case geq => exact ⟨_, h, .bool (decide (m ≥ n)), .pr rfl, fun P t w => by simp [binOp, Op.intCmp]⟩
  case and =>
    obtain ⟨r, hr, h⟩ := h
    refine ⟨_, h, .int k r, .val _, fun P t w => ?_⟩
    rw [hr]; simp [binOp, Op.intBits, bitsK]
  case or =>
    obtain ⟨r, hr, h⟩ := h
    refine ⟨_, h, .int k r, .val _, fun P t w => ?_⟩
    rw [hr]; simp [binOp, Op.intBits, bitsK]
  case xor =>
    obtain ⟨r, hr, h⟩ := h
    refine ⟨_, h, .int k r, .val _, fun P t w => ?_⟩
    rw [hr]; simp [binOp, Op.intBits, bitsK]
  case andNot =>
    obtain ⟨r, hr, h⟩ := h
    refine ⟨_, h, .int k r, .val _, fun P t w => ?_⟩
    rw [hr]; simp [binOp, Op.intBits, bitsK]

theorem shr_eq (m : Int) (c : Nat) : m.fdiv (2 ^ c) = m / 2 ^ c := Int.fdiv_eq_ediv_of_nonneg m (Int.pow_nonneg (by omega))

theorem shiftV_sound {op : BinOp} {y : Operand} {k k' : IntKind} {m n : Int} {K : SV → Prop} (h : shiftV op y k m n K) :
    ∃ s, K s ∧ ∃ v, Good s v ∧ ∀ (P : Program) (t : TypeId) (w : World), (binOp op t (.int k m) (.int k' n)).run P w = .ok v w := by
  unfold shiftV at h
  split at h
  · split at h
    · rename_i c
      have hc : min c k.bits = c := by have := h.ob; omega
      refine ⟨_, fitK_elim h.go, _, .val _, fun P t w => ?_⟩
      simp [binOp, Op.shift, hc]
      intro hn; omega
    · exact h.elim
  · obtain ⟨h0, h1⟩ := h.ob
    have hc : min n.toNat k.bits = n.toNat := by omega
    refine ⟨_, fitK_elim h.go, _, .val _, fun P t w => ?_⟩
    simp [binOp, Op.shift, hc, show ¬ n < 0 by omega]
  · split at h
    · rename_i c
      have hc : min c k.bits = c := by have := h.ob; omega
      refine ⟨_, h.go, _, .val _, fun P t w => ?_⟩
      simp [binOp, Op.shift, hc, shr_eq]
      intro hn; omega
    · exact h.elim
  · obtain ⟨h0, h1⟩ := h.ob
    have hc : min n.toNat k.bits = n.toNat := by omega
    refine ⟨_, h.go, _, .val _, fun P t w => ?_⟩
    simp [binOp, Op.shift, hc, show ¬ n < 0 by omega, shr_eq]
  · exact h.elim

/-- Two rows of integers, kind by kind. -/
def eqB : List Value → List Value → Bool
  | .int _ m :: r, .int _ n :: r' => (m == n) && eqB r r'
  | [], [] => true
  | _, _ => false
inductive Paired : List Value → List Value → Prop
  | nil : Paired [] []
  | cons (k : IntKind) (m n : Int) {r r' : List Value} (h : Paired r r') : Paired (.int k m :: r) (.int k n :: r')

theorem eqCells_elim {cs ds : List SV} : ∀ {K : (p : Prop) → Decidable p → Prop}, eqCells cs ds K → ∃ p i, K p i ∧
    ∀ {S Pm : Nat → Prop} {ρ : Names} {w : World} {vs us : List Value}, Gs S Pm ρ w cs vs → Gs S Pm ρ w ds us → Paired vs us ∧ eqB vs us = @decide p i := by
  induction cs generalizing ds with
  | nil =>
    intro K h
    cases ds with
    | nil => exact ⟨True, _, h, fun h1 h2 => by rw [h1.nil_inv, h2.nil_inv]; exact ⟨.nil, rfl⟩⟩
    | cons d ds => exact h.elim
  | cons c cs ih =>
    intro K h
    cases ds with
    | nil => exact h.elim
    | cons d ds =>
      simp only [eqCells] at h
      have h := force_elim (force_elim h)
      split at h
      · rename_i k m k' n
        obtain ⟨hk, h'⟩ := guardB_elim h
        obtain ⟨p, i, hK, hp⟩ := ih h'
        have hk := kBeq_eq hk
        refine ⟨_, _, hK, fun h1 h2 => ?_⟩
        obtain ⟨v, vs, rfl, h3, h4⟩ := h1.cons_inv
        obtain ⟨u, us, rfl, h5, h6⟩ := h2.cons_inv
        subst hk
        rw [h3.val_inv, h5.val_inv]
        obtain ⟨h7, h8⟩ := hp h4 h6
        refine ⟨.cons _ _ _ h7, ?_⟩
        simp only [eqB, h8]
        rw [Bool.eq_iff_iff]; simp
      · exact h.elim

theorem Paired.length {vs us : List Value} (h : Paired vs us) : vs.length = us.length := by induction h <;> simp_all
theorem Paired.drop {vs us : List Value} (n : Nat) (h : Paired vs us) : Paired (vs.drop n) (us.drop n) := by
  induction n generalizing vs us with
  | zero => exact h
  | succ n ih => cases h with
    | nil => exact .nil
    | cons k m n h => exact ih h
theorem Paired.take {vs us : List Value} (n : Nat) (h : Paired vs us) : Paired (vs.take n) (us.take n) := by
  induction n generalizing vs us with
  | zero => exact .nil
  | succ n ih => cases h with
    | nil => exact .nil
    | cons k m n h => exact .cons _ _ _ (ih h)
theorem eqB_split {vs us : List Value} (n : Nat) (h : Paired vs us) : eqB vs us = (eqB (vs.take n) (us.take n) && eqB (vs.drop n) (us.drop n)) := by
  induction n generalizing vs us with
  | zero => simp [eqB]
  | succ n ih => cases h with
    | nil => rfl
    | cons k m n h => simp [eqB, ih h, Bool.and_assoc]

/-- A value of such a type, out of its cells. -/
def wrapV (agg : Bool) (vs : List Value) : Value := if agg then .agg vs.toArray else vs.headD undef

theorem run_part {P : Program} {t : TypeId} {i : TI} (hT : TOne P t i) (vs : List Value) (off : Nat) (h : off + i.sz ≤ vs.length) (hz : i.kind.agg = false → i.sz = 1) (w : World) :
    (part t vs.toArray off).run P w = .ok (wrapV i.kind.agg ((vs.drop off).take i.sz)) w := by
  unfold part
  rw [Sem.run_bind, hT.agg w, Result.andThen_ok]
  cases hk : i.kind.agg with
  | true => simp [hT.size, wrapV]
  | false =>
    have h1 := hz hk
    have hlt : off < vs.length := by omega
    have h2 : (List.take 1 (List.drop off vs)) = [vs[off]] := by rw [List.drop_eq_getElem_cons hlt]; rfl
    simp [wrapV, h1, hlt, h2]

theorem intsT_go {P : Program} {Γ : List (TypeId × TI)} (hT : TOK P Γ) (n : Nat)
    (ih : ∀ t i, ti Γ t = some i → intsT Γ n t = true → (i.kind.agg = false → i.sz = 1) ∧ ∀ (d : Nat) (vs us : List Value) (w : World), vs.length = i.sz → Paired vs us →
      (Op.equalIn (n + d) t (wrapV i.kind.agg vs) (wrapV i.kind.agg us)).run P w = .ok (eqB vs us) w) (d sz : Nat) (vs us : List Value) (hl : vs.length = sz) (hp : Paired vs us) (w : World) :
    ∀ (F : List Field) (at_ : Nat), intsGo Γ (intsT Γ n) (F.map fun f => (f.offset, f.type)) at_ sz = true → (∀ f ∈ F, f.name ≠ "_") →
      at_ ≤ sz ∧ (Op.eqFields (n + d) vs.toArray us.toArray F).run P w = .ok (eqB (vs.drop at_) (us.drop at_)) w
  | [], at_, h, _ => by
    simp only [List.map_nil, intsGo] at h
    have h := Nat.eq_of_beq_eq_true h
    subst h
    have hlu := hp.length
    simp [Op.eqFields, List.drop_of_length_le (Nat.le_of_eq hl), List.drop_of_length_le (Nat.le_of_eq (hlu ▸ hl)), eqB]
  | f :: F, at_, h, hn => by
    simp only [List.map_cons, intsGo] at h
    split at h
    · rename_i j hj
      obtain ⟨h1, h⟩ := andB_elim h
      obtain ⟨h2, h3⟩ := andB_elim h
      have h1 := Nat.eq_of_beq_eq_true h1
      obtain ⟨hz, he⟩ := ih _ _ hj h2
      obtain ⟨h4, h5⟩ := intsT_go hT n ih d sz vs us hl hp w F (at_ + j.sz) h3 (fun f hf => hn f (.tail _ hf))
      have hlu := hp.length
      have p1 := run_part (hT _ _ hj) vs f.offset (by omega) hz w
      have p2 := run_part (hT _ _ hj) us f.offset (by omega) hz w
      have he' := he d ((vs.drop f.offset).take j.sz) ((us.drop f.offset).take j.sz) w (by simp; omega) ((hp.drop _).take _)
      refine ⟨by omega, ?_⟩
      have hs := eqB_split j.sz (hp.drop f.offset)
      simp only [Op.eqFields, hn f (.head _), ne_eq, not_false_eq_true, if_true, Sem.run_bind, p1, p2, Result.andThen_ok, he']
      rw [← h1, hs]
      cases hb : eqB ((vs.drop f.offset).take j.sz) ((us.drop f.offset).take j.sz) with
      | true => simp [h5, h1, List.drop_drop]
      | false => simp
    · cases h

theorem intsT_sound {P : Program} {Γ : List (TypeId × TI)} (hT : TOK P Γ) : ∀ (n : Nat) (t : TypeId) (i : TI), ti Γ t = some i → intsT Γ n t = true →
    (i.kind.agg = false → i.sz = 1) ∧ ∀ (d : Nat) (vs us : List Value) (w : World), vs.length = i.sz → Paired vs us →
      (Op.equalIn (n + d) t (wrapV i.kind.agg vs) (wrapV i.kind.agg us)).run P w = .ok (eqB vs us) w
  | 0, t, i, hi, h => by simp [intsT] at h
  | n + 1, t, i, hi, h => by
    unfold intsT at h
    rw [hi] at h
    simp only at h
    have hK := (hT t i hi).kind
    split at h
    · rename_i k hk
      rw [hk] at hK
      have hz := Nat.eq_of_beq_eq_true h
      refine ⟨fun _ => hz, fun d vs us w hl hp => ?_⟩
      rw [hz] at hl
      cases hp with
      | nil => simp at hl
      | cons k' m m' h =>
        cases h with
        | nil =>
          rw [show n + 1 + d = (n + d) + 1 by omega]
          simp only [hk, TK.agg, wrapV, Bool.false_eq_true, if_false, List.headD_cons, run_equalIn_int w _ t k' k m _ hK, eqB, Bool.and_true]
        | cons => simp at hl
    · rename_i fs hk
      obtain ⟨hc, hg⟩ := andB_elim h
      rw [hk] at hK
      obtain ⟨F, hF, hmap, _⟩ := hK
      obtain ⟨h1, h2, h3⟩ := (hT t i hi).cmp hc
      have hfo : P.fieldsOf t = F := by simp [Program.fieldsOf, hF]
      refine ⟨fun h => (by rw [hk] at h; cases h), fun d vs us w hl hp => ?_⟩
      rw [show n + 1 + d = (n + d) + 1 by omega]
      rw [← hmap] at hg
      have := (intsT_go hT n (intsT_sound hT n) d i.sz vs us hl hp w F.toList 0 hg (by rw [← hfo]; exact h3)).2
      simp only [hk, TK.agg, wrapV, if_true]
      rw [run_equalIn_struct w (n + d) t _ _ (by rw [hfo]; exact hF) h1, hfo]
      simpa using this
    · cases h

theorem toPr_elim {s : SV} {K : (p : Prop) → Decidable p → Prop} (h : toPr s K) : ∃ p i, K p i ∧ ∀ {S Pm : Nat → Prop} {ρ : Names} {w : World} {v : Value}, G S Pm ρ w s v → v = .bool (@decide p i) := by
  unfold toPr at h
  split at h
  · exact ⟨_, _, h, fun hg => hg.pr_inv⟩
  · exact ⟨_, _, h, fun hg => by rw [hg.val_inv]; rfl⟩
  · exact ⟨_, _, h, fun hg => by rw [hg.val_inv]; rfl⟩
  · exact h.elim

end Go.Gs
/- The operations, one by one: what is left to be shown is enough. -/
namespace Go.Gs

section
variable {P : Program} {op : Op} {svs : List SV} {lm : Nat → Option Mem} {κ : Nat}

theorem OpOK.pure {s : SV} (h : ∀ (o : Oper), o.op = op → ∀ (S Pm : Nat → Prop) (ρ : Names) (a : Act) (w : World), Gs S Pm ρ w svs ((operandsL op).map a.eval) →
    ∃ v, (execOp a.eval o).run P w = .ok (.value v) w ∧ G S Pm ρ w s v) : OpOK P op svs lm κ s .none := by
  intro o ho Keep M ρ a w _ hm _ _ hg
  obtain ⟨v, h1, h2⟩ := h o ho _ _ ρ a w hg
  exact Does.value h1 (After.same hm h2)

theorem OpOK.read {s : SV} (h : ∀ (o : Oper), o.op = op → ∀ (Keep : Nat → Prop) (M : List (Nat × Mem)) (ρ : Names) (a : Act) (w : World), (∀ k m, lm k = some m → (k, m) ∈ M) → MemOK Keep M ρ w →
    Gs (fun b => Keep b ∨ Own M ρ b) (Own M ρ) ρ w svs ((operandsL op).map a.eval) →
    ∃ v, (execOp a.eval o).run P w = .ok (.value v) w ∧ G (fun b => Keep b ∨ Own M ρ b) (Own M ρ) ρ w s v) : OpOK P op svs lm κ s .none := by
  intro o ho Keep M ρ a w hlm hm _ _ hg
  obtain ⟨v, h1, h2⟩ := h o ho Keep M ρ a w (fun k m h => mem_lookM (hlm k m h)) hm hg
  exact Does.value h1 (After.same hm h2)
end

theorem run_pnil {P : Program} {w : World} {t e : TypeId} {p : Option Addr} (h : P.underlying t = some (.pointer e)) : (Op.equal t (.pointer p) (.pointer none)).run P w = .ok p.isNone w := by
  have key : ∀ d, (Op.equalIn (d + 1) t (.pointer p) (.pointer none)).run P w = .ok p.isNone w := fun d => by
    cases p <;> simp [Op.equalIn, run_underlying h]
  exact key 9999
theorem run_ifnil {P : Program} {w : World} {t u : TypeId} {v : Value} {ms : Array (String × TypeId)} (h : P.underlying t = some (.interface ms)) : (Op.equal t (.iface u v) .nilIface).run P w = .ok false w := by
  have key : ∀ d, (Op.equalIn (d + 1) t (.iface u v) .nilIface).run P w = .ok false w := fun d => by simp [Op.equalIn, run_underlying h]
  exact key 9999
theorem run_nilnil {P : Program} {w : World} {t : TypeId} {ms : Array (String × TypeId)} (h : P.underlying t = some (.interface ms)) : (Op.equal t .nilIface .nilIface).run P w = .ok true w := by
  have key : ∀ d, (Op.equalIn (d + 1) t .nilIface .nilIface).run P w = .ok true w := fun d => by simp [Op.equalIn, run_underlying h]
  exact key 9999

theorem bin_sound {P : Program} {Γ : List (TypeId × TI)} (hT : TOK P Γ) {op : BinOp} {t yt : TypeId} {x y : Operand} {a b : SV} {lm : Nat → Option Mem} {κ : Nat} {K : SV → Prop}
    (h : bin Γ op t y a b K) : ∃ s, K s ∧ OpOK P (.binOp op t x y yt) [a, b] lm κ s .none := by
  unfold bin at h
  split at h
  · rename_i k m k' n
    have h2 : ∃ s, K s ∧ ∃ v, Good s v ∧ ∀ (P : Program) (t : TypeId) (w : World), (binOp op t (.int k m) (.int k' n)).run P w = .ok v w := by
      split at h
      · exact shiftV_sound h
      · rename_i hs
        obtain ⟨hk, h'⟩ := guardB_elim h
        have := kBeq_eq hk; subst this
        exact intV_sound hs h'
    obtain ⟨s, hK, v, hg, hr⟩ := h2
    refine ⟨s, hK, .pure fun o ho S Pm ρ a w hgs => ⟨v, ?_, hg.g⟩⟩
    have hx := (Gs.head hgs).val_inv
    have hy := (Gs.head (Gs.tail hgs)).val_inv
    simp [execOp, ho, hx, hy, eqGuard_at_int, hr]
  · rename_i cs ds
    obtain ⟨i, hi, h⟩ := withT_elim h
    obtain ⟨hagg, h⟩ := guardB_elim h
    obtain ⟨hlen, h⟩ := guardB_elim h
    obtain ⟨hint, h⟩ := guardB_elim h
    have hlen := Nat.eq_of_beq_eq_true hlen
    have hsound := (intsT_sound hT 8 t i hi hint).2
    have hcmp : i.cmp = true := by
      unfold intsT at hint; rw [hi] at hint; simp only at hint
      split at hint
      · rename_i hk; rw [hk] at hagg; cases hagg
      · exact (andB_elim hint).1
      · cases hint
    have hguard := ((hT t i hi).cmp hcmp).2.1
    have run : ∀ (cs ds : List Value) (w : World), cs.length = i.sz → Paired cs ds → (Op.equalIn 10000 t (.agg cs.toArray) (.agg ds.toArray)).run P w = .ok (eqB cs ds) w := by
      intro cs ds w h1 h2
      have := hsound 9992 cs ds w h1 h2
      simpa [wrapV, hagg] using this
    split at h
    · obtain ⟨p, ip, hK, hp⟩ := eqCells_elim h
      refine ⟨_, hK, .pure fun o ho S Pm ρ a w hgs => ?_⟩
      obtain ⟨vs, hx, hvs⟩ := (Gs.head hgs).agg_inv
      obtain ⟨us, hy, hus⟩ := (Gs.head (Gs.tail hgs)).agg_inv
      obtain ⟨h1, h2⟩ := hp hvs hus
      refine ⟨.bool (eqB vs us), ?_, (Good.pr h2).g⟩
      simp only [execOp, ho, hx, hy, Sem.run_bind, run_eqGuard_agg w _ t x y _ _ hguard, Result.andThen_ok, run_eql_struct, run vs us w (by rw [hvs.1, hlen]) h1, Sem.run_pure]
    · obtain ⟨p, ip, hK, hp⟩ := eqCells_elim h
      refine ⟨_, hK, .pure fun o ho S Pm ρ a w hgs => ?_⟩
      obtain ⟨vs, hx, hvs⟩ := (Gs.head hgs).agg_inv
      obtain ⟨us, hy, hus⟩ := (Gs.head (Gs.tail hgs)).agg_inv
      obtain ⟨h1, h2⟩ := hp hvs hus
      refine ⟨.bool (!eqB vs us), ?_, (Good.pr (by rw [h2]; rw [Bool.eq_iff_iff]; simp)).g⟩
      simp only [execOp, ho, hx, hy, Sem.run_bind, run_eqGuard_agg w _ t x y _ _ hguard, Result.andThen_ok, run_neq_struct, run vs us w (by rw [hvs.1, hlen]) h1, Sem.run_pure]
    · exact h.elim
  · rename_i α enc xs
    replace h := withT_elim h; obtain ⟨i, hi, h⟩ := h
    have hk := (hT t i hi).kind
    have key : ∀ {S Pm : Nat → Prop} {ρ : Names} {w : World} {v : Value}, G S Pm ρ w (.sl enc xs) v → ∃ a c, v = .slice a xs.length c ∧ (xs.length ≠ 0 → a.isNone = false) := fun hg => by
      rcases hg.sl_inv.sl_inv with ⟨rfl, a, rfl⟩ | ⟨_, b, o, cap, _, rfl, _⟩
      · exact ⟨a, 0, rfl, fun h => absurd rfl h⟩
      · exact ⟨_, cap, rfl, fun _ => rfl⟩
    have hguard : ∀ (w : World) (a b : Value), (∃ x y z, a = .slice x y z) → (eqGuard op t x y a b).run P w = .ok () w := fun w a b ⟨x, y, z, e⟩ => by subst e; simp [eqGuard]
    unfold nilCmp at h
    split at h
    · rename_i e hkind
      rw [hkind] at hk
      have hk : P.underlying t = some (.slice e) := hk
      rcases h with ⟨hn, h⟩ | h
      · refine ⟨_, h, .pure fun o ho S Pm ρ a w hgs => ?_⟩
        obtain ⟨ad, c, hx, hz⟩ := key (Gs.head hgs)
        have hy := (Gs.head (Gs.tail hgs)).val_inv
        refine ⟨.bool false, ?_, (Good.val _).g⟩
        simp [execOp, ho, hx, hy, hguard, binOp, run_equal_slice_nil w t e ad _ c hk, hz hn]
      · refine ⟨_, h, .pure fun o ho S Pm ρ a w hgs => ?_⟩
        obtain ⟨ad, c, hx, hz⟩ := key (Gs.head hgs)
        have hy := (Gs.head (Gs.tail hgs)).val_inv
        refine ⟨.bool ad.isNone, ?_, .d _ _ (.anyb _)⟩
        simp [execOp, ho, hx, hy, hguard, binOp, run_equal_slice_nil w t e ad _ c hk]
    · rename_i e hkind
      rw [hkind] at hk
      have hk : P.underlying t = some (.slice e) := hk
      rcases h with ⟨hn, h⟩ | h
      · refine ⟨_, h, .pure fun o ho S Pm ρ a w hgs => ?_⟩
        obtain ⟨ad, c, hx, hz⟩ := key (Gs.head hgs)
        have hy := (Gs.head (Gs.tail hgs)).val_inv
        refine ⟨.bool true, ?_, (Good.val _).g⟩
        simp [execOp, ho, hx, hy, hguard, binOp, run_equal_slice_nil w t e ad _ c hk, hz hn]
      · refine ⟨_, h, .pure fun o ho S Pm ρ a w hgs => ?_⟩
        obtain ⟨ad, c, hx, hz⟩ := key (Gs.head hgs)
        have hy := (Gs.head (Gs.tail hgs)).val_inv
        refine ⟨.bool (!ad.isNone), ?_, .d _ _ (.anyb _)⟩
        simp [execOp, ho, hx, hy, hguard, binOp, run_equal_slice_nil w t e ad _ c hk]
    · exact h.elim
  · replace h := withT_elim h; obtain ⟨i, hi, h⟩ := h
    have hk := (hT t i hi).kind
    have hguard : ∀ (w : World) (a b : Value), (∃ x y z, a = .slice x y z) → (eqGuard op t x y a b).run P w = .ok () w := fun w a b ⟨x, y, z, e⟩ => by subst e; simp [eqGuard]
    split at h
    · rename_i e hkind
      rw [hkind] at hk
      have hk : P.underlying t = some (.slice e) := hk
      refine ⟨_, h, .pure fun o ho S Pm ρ a w hgs => ?_⟩
      have hx := (Gs.head hgs).val_inv
      have hy := (Gs.head (Gs.tail hgs)).val_inv
      refine ⟨.bool true, ?_, (Good.val _).g⟩
      simp [execOp, ho, hx, hy, hguard, binOp, run_equal_slice_nil w t e none 0 0 hk]
    · rename_i e hkind
      rw [hkind] at hk
      have hk : P.underlying t = some (.slice e) := hk
      refine ⟨_, h, .pure fun o ho S Pm ρ a w hgs => ?_⟩
      have hx := (Gs.head hgs).val_inv
      have hy := (Gs.head (Gs.tail hgs)).val_inv
      refine ⟨.bool false, ?_, (Good.val _).g⟩
      simp [execOp, ho, hx, hy, hguard, binOp, run_equal_slice_nil w t e none 0 0 hk]
    · exact h.elim
  · replace h := withT_elim h; obtain ⟨i, hi, h⟩ := h
    have hk := (hT t i hi).kind
    split at h
    · rename_i e hkind
      rw [hkind] at hk
      have hk : P.underlying t = some (.pointer e) := hk
      unfold nilTest at h
      split at h
      · refine ⟨_, h, .pure fun o ho S Pm ρ a w hgs => ?_⟩
        obtain ⟨b, o', c, hx, _⟩ := (Gs.head hgs).dptr_inv
        have hy := (Gs.head (Gs.tail hgs)).val_inv
        exact ⟨.bool false, by simp [execOp, ho, hx, hy, eqGuard, binOp, run_pnil hk], (Good.val _).g⟩
      · refine ⟨_, h, .pure fun o ho S Pm ρ a w hgs => ?_⟩
        obtain ⟨b, o', c, hx, _⟩ := (Gs.head hgs).dptr_inv
        have hy := (Gs.head (Gs.tail hgs)).val_inv
        exact ⟨.bool true, by simp [execOp, ho, hx, hy, eqGuard, binOp, run_pnil hk], (Good.val _).g⟩
      · exact h.elim
    · exact h.elim
  · replace h := withT_elim h; obtain ⟨i, hi, h⟩ := h
    have hk := (hT t i hi).kind
    split at h
    · rename_i e hkind
      rw [hkind] at hk
      have hk : P.underlying t = some (.pointer e) := hk
      unfold nilTest at h
      split at h
      · refine ⟨_, h, .pure fun o ho S Pm ρ a w hgs => ?_⟩
        obtain ⟨b, o', c, hx, _⟩ := (Gs.head hgs).ptr_inv
        have hy := (Gs.head (Gs.tail hgs)).val_inv
        exact ⟨.bool false, by simp [execOp, ho, hx, hy, eqGuard, binOp, run_pnil hk], (Good.val _).g⟩
      · refine ⟨_, h, .pure fun o ho S Pm ρ a w hgs => ?_⟩
        obtain ⟨b, o', c, hx, _⟩ := (Gs.head hgs).ptr_inv
        have hy := (Gs.head (Gs.tail hgs)).val_inv
        exact ⟨.bool true, by simp [execOp, ho, hx, hy, eqGuard, binOp, run_pnil hk], (Good.val _).g⟩
      · exact h.elim
    · exact h.elim
  · replace h := withT_elim h; obtain ⟨i, hi, h⟩ := h
    have hk := (hT t i hi).kind
    split at h
    · rename_i e hkind
      rw [hkind] at hk
      have hk : P.underlying t = some (.pointer e) := hk
      unfold nilTest at h
      split at h
      · refine ⟨_, h, .pure fun o ho S Pm ρ a w hgs => ?_⟩
        obtain ⟨b, _, hx⟩ := (Gs.head hgs).loc_inv
        have hy := (Gs.head (Gs.tail hgs)).val_inv
        exact ⟨.bool false, by simp [execOp, ho, hx, hy, eqGuard, binOp, run_pnil hk], (Good.val _).g⟩
      · refine ⟨_, h, .pure fun o ho S Pm ρ a w hgs => ?_⟩
        obtain ⟨b, _, hx⟩ := (Gs.head hgs).loc_inv
        have hy := (Gs.head (Gs.tail hgs)).val_inv
        exact ⟨.bool true, by simp [execOp, ho, hx, hy, eqGuard, binOp, run_pnil hk], (Good.val _).g⟩
      · exact h.elim
    · exact h.elim
  · replace h := withT_elim h; obtain ⟨i, hi, h⟩ := h
    have hk := (hT t i hi).kind
    split at h
    · rename_i e hkind
      rw [hkind] at hk
      have hk : P.underlying t = some (.pointer e) := hk
      unfold nilTest at h
      split at h
      · refine ⟨_, h, .pure fun o ho S Pm ρ a w hgs => ?_⟩
        have hx := (Gs.head hgs).val_inv
        have hy := (Gs.head (Gs.tail hgs)).val_inv
        exact ⟨.bool true, by simp [execOp, ho, hx, hy, eqGuard, binOp, run_pnil hk], (Good.val _).g⟩
      · refine ⟨_, h, .pure fun o ho S Pm ρ a w hgs => ?_⟩
        have hx := (Gs.head hgs).val_inv
        have hy := (Gs.head (Gs.tail hgs)).val_inv
        exact ⟨.bool false, by simp [execOp, ho, hx, hy, eqGuard, binOp, run_pnil hk], (Good.val _).g⟩
      · exact h.elim
    · exact h.elim
  · replace h := withT_elim h; obtain ⟨i, hi, h⟩ := h
    have hk := (hT t i hi).kind
    split at h
    · rename_i hkind
      rw [hkind] at hk
      obtain ⟨ms, hk⟩ := hk
      unfold nilTest at h
      split at h
      · refine ⟨_, h, .pure fun o ho S Pm ρ a w hgs => ?_⟩
        obtain ⟨v, hx, _⟩ := (Gs.head hgs).ifc_inv
        have hy := (Gs.head (Gs.tail hgs)).val_inv
        exact ⟨.bool false, by simp [execOp, ho, hx, hy, eqGuard, binOp, run_ifnil hk], (Good.val _).g⟩
      · refine ⟨_, h, .pure fun o ho S Pm ρ a w hgs => ?_⟩
        obtain ⟨v, hx, _⟩ := (Gs.head hgs).ifc_inv
        have hy := (Gs.head (Gs.tail hgs)).val_inv
        exact ⟨.bool true, by simp [execOp, ho, hx, hy, eqGuard, binOp, run_ifnil hk], (Good.val _).g⟩
      · exact h.elim
    · exact h.elim
  · replace h := withT_elim h; obtain ⟨i, hi, h⟩ := h
    have hk := (hT t i hi).kind
    split at h
    · rename_i hkind
      rw [hkind] at hk
      obtain ⟨ms, hk⟩ := hk
      replace h := guardB_elim h; obtain ⟨hlit, h⟩ := h
      obtain ⟨yv, hyv⟩ : ∃ yv, y = .const yv := by cases y <;> first | exact ⟨_, rfl⟩ | cases hlit
      subst hyv
      unfold nilTest at h
      split at h
      · refine ⟨_, h, .pure fun o ho S Pm ρ a w hgs => ?_⟩
        have hx := (Gs.head hgs).val_inv
        have hy := (Gs.head (Gs.tail hgs)).val_inv
        exact ⟨.bool true, by simp [execOp, ho, hx, hy, eqGuard, binOp, run_nilnil hk], (Good.val _).g⟩
      · refine ⟨_, h, .pure fun o ho S Pm ρ a w hgs => ?_⟩
        have hx := (Gs.head hgs).val_inv
        have hy := (Gs.head (Gs.tail hgs)).val_inv
        exact ⟨.bool false, by simp [execOp, ho, hx, hy, eqGuard, binOp, run_nilnil hk], (Good.val _).g⟩
      · exact h.elim
    · exact h.elim
  · replace h := withT_elim h; obtain ⟨i, hi, h⟩ := h
    have hk := (hT t i hi).kind
    split at h
    · rename_i hkind
      rw [hkind] at hk
      obtain ⟨p, ip, h, hp⟩ := toPr_elim h
      obtain ⟨q, iq, h, hq⟩ := toPr_elim h
      refine ⟨_, h, .pure fun o ho S Pm ρ a w hgs => ?_⟩
      have hx := hp (Gs.head hgs)
      have hy := hq (Gs.head (Gs.tail hgs))
      refine ⟨.bool (@decide p ip == @decide q iq), ?_, (Good.pr (by by_cases hp' : p <;> by_cases hq' : q <;> simp [hp', hq'])).g⟩
      simp [execOp, ho, hx, hy, eqGuard_at_bool, binOp, Op.equal, Op.maxDepth, run_equalIn_bool w 9999 t _ _ hk]
    · rename_i hkind
      rw [hkind] at hk
      obtain ⟨p, ip, h, hp⟩ := toPr_elim h
      obtain ⟨q, iq, h, hq⟩ := toPr_elim h
      refine ⟨_, h, .pure fun o ho S Pm ρ a w hgs => ?_⟩
      have hx := hp (Gs.head hgs)
      have hy := hq (Gs.head (Gs.tail hgs))
      refine ⟨.bool (!(@decide p ip == @decide q iq)), ?_, (Good.pr (by by_cases hp' : p <;> by_cases hq' : q <;> simp [hp', hq'])).g⟩
      simp [execOp, ho, hx, hy, eqGuard_at_bool, binOp, Op.equal, Op.maxDepth, run_equalIn_bool w 9999 t _ _ hk]
    · exact h.elim

theorem pick_sound {P : Program} {c a b : SV} {xc xa xb : Operand} {lm : Nat → Option Mem} {κ : Nat} {K : SV → MD → Prop} (h : pickV c a b K) :
    ∃ s, K s .none ∧ OpOK P (.pick xc xa xb) [c, a, b] lm κ s .none := by
  have yes : ∀ (c' : Bool), (∀ {S Pm : Nat → Prop} {ρ : Names} {w : World} {v : Value}, G S Pm ρ w c v → v = .bool c') → OpOK P (.pick xc xa xb) [c, a, b] lm κ (if c' then a else b) .none := by
    intro c' hc
    refine .pure fun o ho S Pm ρ e w hgs => ?_
    have h1 := hc (Gs.head hgs)
    have h2 := Gs.head (Gs.tail hgs)
    have h3 := Gs.head (Gs.tail (Gs.tail hgs))
    cases c' with
    | true => exact ⟨_, by simp [execOp, ho, h1, asBool], h2⟩
    | false => exact ⟨_, by simp [execOp, ho, h1, asBool], h3⟩
  unfold pickV at h
  split at h
  · exact ⟨a, h, yes true fun hg => hg.val_inv⟩
  · exact ⟨b, h, yes false fun hg => hg.val_inv⟩
  · rename_i p i
    by_cases hp : p
    · exact ⟨a, h.yes hp, yes true fun hg => by rw [hg.pr_inv]; simp [hp]⟩
    · exact ⟨b, h.no hp, yes false fun hg => by rw [hg.pr_inv]; simp [hp]⟩
  · exact h.elim

theorem un_sound {P : Program} {op : UnOp} {t : TypeId} {x : Operand} {s : SV} {lm : Nat → Option Mem} {κ : Nat} {K : SV → MD → Prop} (h : unV op s K) :
    ∃ r, K r .none ∧ OpOK P (.unOp op t x) [s] lm κ r .none := by
  unfold unV at h
  split at h
  · exact ⟨_, h, .pure fun o ho S Pm ρ a w hgs => ⟨.bool false, by simp [execOp, ho, (Gs.head hgs).val_inv, Op.unary], (Good.val _).g⟩⟩
  · exact ⟨_, h, .pure fun o ho S Pm ρ a w hgs => ⟨.bool true, by simp [execOp, ho, (Gs.head hgs).val_inv, Op.unary], (Good.val _).g⟩⟩
  · rename_i p i
    exact ⟨_, h, .pure fun o ho S Pm ρ a w hgs => ⟨.bool (!(@decide p i)), by simp [execOp, ho, (Gs.head hgs).pr_inv, Op.unary], (Good.pr (by rw [Bool.eq_iff_iff]; simp)).g⟩⟩
  · rename_i k n
    exact ⟨_, fitK_elim h, .pure fun o ho S Pm ρ a w hgs => ⟨.int k (k.wrap (-n)), by simp [execOp, ho, (Gs.head hgs).val_inv, Op.unary, Op.intArith], (Good.val _).g⟩⟩
  · exact h.elim

theorem mkV_elim {agg : Bool} {sz : Nat} {cs : List SV} {K : SV → Prop} (h : mkV agg sz cs K) : ∃ s, K s ∧ ((agg = true ∧ s = .agg (cs.take sz)) ∨ (agg = false ∧ ∃ r, cs = s :: r)) := by
  unfold mkV at h
  split at h
  · exact ⟨_, h, .inl ⟨rfl, rfl⟩⟩
  · split at h
    · exact ⟨_, force_elim h, .inr ⟨rfl, _, rfl⟩⟩
    · exact h.elim

theorem addr_add (b o n : Nat) : (⟨b, o, none⟩ : Addr).add n = ⟨b, o + n, none⟩ := by unfold Addr.add; split <;> simp_all

/-- A variable is loaded whose cells are known. -/
theorem load_run {P : Program} {t : TypeId} {i : TI} (hT : TOne P t i) {S Pm : Nat → Prop} {ρ : Names} {w : World} {b o : Nat} {cs : List SV} {vs : List Value} (hg : Gs S Pm ρ w cs vs)
    (hc : ∀ j v, vs[j]? = some v → w.cell? ⟨b, o + j, none⟩ = some v) (hle : i.sz ≤ cs.length) {s : SV}
    (hs : (i.kind.agg = true ∧ s = .agg (cs.take i.sz)) ∨ (i.kind.agg = false ∧ ∃ r, cs = s :: r)) :
    ∃ v, (loadVar t ⟨b, o, none⟩).run P w = .ok v w ∧ G S Pm ρ w s v := by
  unfold loadVar
  rw [Sem.run_bind, hT.agg w, Result.andThen_ok]
  rcases hs with ⟨h1, rfl⟩ | ⟨h1, r, rfl⟩
  · have hl : (vs.take i.sz).length = i.sz := by have := hg.1; simp; omega
    have hload := run_loadCells_list (P := P) w ⟨b, o, none⟩ (vs.take i.sz) (fun j v hv => by
      rw [addr_add]
      rw [List.getElem?_take] at hv
      split at hv
      · exact hc j v hv
      · cases hv)
    rw [hl] at hload
    refine ⟨.agg (vs.take i.sz).toArray, ?_, .agg _ _ (hg.take _).1 (hg.take _).2⟩
    simp [h1, hT.size, hload]
  · obtain ⟨v, vs', rfl, h2, h3⟩ := hg.cons_inv
    have := hc 0 v rfl
    exact ⟨v, by simp only [h1, Bool.false_eq_true, if_false, run_load, Nat.add_zero] at this ⊢; rw [this], h2⟩

theorem cell_one {s : SV} (h : cellB s = true) {S Pm : Nat → Prop} {ρ : Names} {w : World} {v : Value} (hg : G S Pm ρ w s v) : v.oneCell' = true := by
  cases s with
  | val u => rw [hg.val_inv]; cases u <;> first | rfl | (simp [cellB] at h)
  | pr p i => rw [hg.pr_inv]; rfl
  | agg cs => simp [cellB] at h
  | sl enc xs => rcases hg.sl_inv.sl_inv with ⟨_, _, rfl⟩ | ⟨_, _, _, _, _, rfl, _⟩ <;> rfl
  | nils => obtain ⟨_, rfl⟩ := hg.nils_inv; rfl
  | anyb => obtain ⟨_, rfl⟩ := hg.anyb_inv; rfl
  | full enc xs => obtain ⟨_, rfl, _⟩ := hg.full_inv; rfl
  | ptr cs => obtain ⟨_, _, _, rfl, _⟩ := hg.ptr_inv; rfl
  | loc k off => obtain ⟨_, _, rfl⟩ := hg.loc_inv; rfl
  | own k => exact hg.own_inv.2
  | eloc k sz i off => obtain ⟨_, _, _, _, rfl⟩ := hg.eloc_inv; rfl
  | win k sz lo n => obtain ⟨_, _, _, _, _, rfl, _⟩ := hg.win_inv; rfl
  | fn f cs => obtain ⟨_, rfl, _⟩ := hg.fn_inv; rfl
  | dptr cs => obtain ⟨_, _, _, rfl, _⟩ := hg.dptr_inv; rfl
  | dfn f cs => obtain ⟨_, rfl, _⟩ := hg.dfn_inv; rfl
  | ifc t s => obtain ⟨_, rfl, _⟩ := hg.ifc_inv; rfl
  | tup cs => simp [cellB] at h
  | junk => simp [cellB] at h

theorem cells_one {cs : List SV} (h : cellsB cs = true) {S Pm : Nat → Prop} {ρ : Names} {w : World} {vs : List Value} (hg : Gs S Pm ρ w cs vs) : ∀ v ∈ vs, v.oneCell' = true := by
  induction cs generalizing vs with
  | nil => rw [hg.nil_inv]; simp
  | cons s cs ih =>
    obtain ⟨v, vs', rfl, h1, h2⟩ := hg.cons_inv
    simp only [cellsB] at h
    split at h
    · rename_i hc
      intro u hu
      cases hu with
      | head => exact cell_one hc h1
      | tail _ hu => exact ih h h2 u hu
    · cases h

theorem one_cells {v : Value} (h : v.oneCell' = true) : v.cells = #[v] := by cases v <;> first | rfl | (simp [Value.oneCell'] at h)

/-- The cells of a value. -/
theorem cellsOf_g {s : SV} (h : cellsB (cellsOf s) = true) {S Pm : Nat → Prop} {ρ : Names} {w : World} {v : Value} (hg : G S Pm ρ w s v) :
    Gs S Pm ρ w (cellsOf s) v.cells.toList ∧ ∀ u ∈ v.cells.toList, u.oneCell' = true := by
  have key : Gs S Pm ρ w (cellsOf s) v.cells.toList := by
    by_cases ha : ∃ cs, s = .agg cs
    · obtain ⟨cs, rfl⟩ := ha
      obtain ⟨vs, rfl, h1⟩ := hg.agg_inv
      exact h1
    · have hc : cellsOf s = [s] := by cases s <;> first | rfl | exact absurd ⟨_, rfl⟩ ha
      rw [hc] at h ⊢
      simp only [cellsB] at h
      split at h
      · rename_i h1
        rw [one_cells (cell_one h1 hg)]
        exact .cons hg .nil
      · cases h
  exact ⟨key, cells_one h key⟩

theorem splice_g {S Pm : Nat → Prop} {ρ : Names} {w : World} {cs new : List SV} {vs us : List Value} (off : Nat) (h : Gs S Pm ρ w cs vs) (hn : Gs S Pm ρ w new us) :
    Gs S Pm ρ w (splice cs off new) (vs.take off ++ us ++ vs.drop (off + us.length)) := by
  unfold splice
  rw [hn.1]
  exact ((h.take _).append hn).append (h.drop _)

end Go.Gs
