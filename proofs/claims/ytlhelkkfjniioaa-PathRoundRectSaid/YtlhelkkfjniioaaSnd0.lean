/- What is known stays known; one operation carried out. -/
import Derived.Test.YtlhelkkfjniioaaVc
import Derived.Laws.Rows
import Derived.Laws.Tables
import Derived.RowKit3
namespace Go.Gs

theorem cell_same {w w' : World} {b o : Nat} (h : w'.heap[b]? = w.heap[b]?) : w'.cell? ⟨b, o, none⟩ = w.cell? ⟨b, o, none⟩ := by
  simp only [World.cell?, h]

theorem D.mono {S S' : Nat → Prop} {w w' : World} (hz : w.heap.size ≤ w'.heap.size)
    (hS : ∀ b, b < w.heap.size → ¬ S b → ¬ S' b ∧ w'.heap[b]? = w.heap[b]?) {s : SV} {v : Value} (h : D S w s v) : D S' w' s v := by
  induction h with
  | val v => exact .val v
  | pr p i => exact .pr p i
  | agg cs vs hl h ih => exact .agg cs vs hl ih
  | nil enc a => exact .nil enc a
  | nils a => exact .nils a
  | anyb b => exact .anyb b
  | junk v => exact .junk v
  | full enc xs a h ih => exact .full enc xs a ih
  | sl enc xs sz b o cap c hb hS' hlen hcap hsz hc h ih =>
    obtain ⟨h1, h2⟩ := hS b hb hS'
    exact .sl enc xs sz b o cap c (Nat.lt_of_lt_of_le hb hz) h1 hlen hcap hsz (fun i j hi hj => by rw [cell_same h2]; exact hc i j hi hj) ih

theorem G.mono {S S' Pm Pm' : Nat → Prop} {ρ ρ' : Names} {w w' : World} (hz : w.heap.size ≤ w'.heap.size)
    (hS : ∀ b, b < w.heap.size → ¬ S b → ¬ S' b ∧ w'.heap[b]? = w.heap[b]?)
    (hP : ∀ b, b < w.heap.size → ¬ Pm b → ¬ Pm' b ∧ w'.heap[b]? = w.heap[b]?)
    (hρ : ∀ k v, ρ k = some v → ρ' k = some v) {s : SV} {v : Value} (h : G S Pm ρ w s v) : G S' Pm' ρ' w' s v := by
  induction h with
  | d s v h => exact .d s v (h.mono hz hS)
  | loc k off b h => exact .loc k off b (hρ _ _ h)
  | own k v h h1 => exact .own k v (hρ _ _ h) h1
  | eloc k sz i off b len cap h => exact .eloc k sz i off b len cap (hρ _ _ h)
  | win k sz lo n b len cap cap' h h1 h2 => exact .win k sz lo n b len cap cap' (hρ _ _ h) h1 h2
  | ptr cs b o c hb hP' hc h =>
    obtain ⟨h1, h2⟩ := hP b hb hP'
    exact .ptr cs b o c (Nat.lt_of_lt_of_le hb hz) h1 (fun j hj => by rw [cell_same h2]; exact hc j hj) (fun j s hs => (h j s hs).mono hz hS)
  | agg cs vs hl h ih => exact .agg cs vs hl ih
  | tup cs vs hl h ih => exact .tup cs vs hl ih
  | fn f cs vs hl h ih => exact .fn f cs vs hl ih

theorem SameOut.refl (w : World) : SameOut w w := ⟨rfl, fun _ => rfl⟩
theorem SameOut.trans {w w' w'' : World} (h : SameOut w w') (k : SameOut w' w'') : SameOut w w'' := ⟨k.1.trans h.1, fun a => (k.2 a).trans (h.2 a)⟩
theorem SameOut.cells (w : World) (c : Array Value) (t : TypeId) : SameOut w (w.alloc (.cells c t)) := ⟨rfl, fun a => RowKit.frozen?_alloc_cells w c t a⟩
theorem SameOut.setRow (w : World) (g : Nat) (cs : Array Value) : SameOut w (w.setRow g cs) := ⟨rfl, fun a => by
  show World.frozen? { w with heap := w.heap.modify g _ } a = _
  unfold World.frozen?
  simp only [Array.getElem?_modify]
  by_cases h : g = a.block
  · simp only [h, if_true]
    cases w.heap[a.block]? with
    | none => rfl
    | some o => cases o <;> rfl
  · simp only [h, if_false]⟩
theorem Stp.refl {W : Nat → Prop} {ρ : Names} {w : World} : Stp W W ρ ρ w w := ⟨rfl, rfl, .refl _, Nat.le_refl _, fun _ _ _ => rfl, fun _ h => .inl h, fun _ _ h => h⟩

theorem Stp.trans {W W' W'' : Nat → Prop} {ρ ρ' ρ'' : Names} {w w' w'' : World} (h : Stp W W' ρ ρ' w w') (k : Stp W' W'' ρ' ρ'' w' w'') : Stp W W'' ρ ρ'' w w'' :=
  ⟨k.os.trans h.os, k.tape.trans h.tape, h.output.trans k.output, Nat.le_trans h.size k.size,
    fun b hb hn => (k.block b (Nat.lt_of_lt_of_le hb h.size) (fun hw => (h.own b hw).elim hn (fun h2 => by omega))).trans (h.block b hb hn),
    fun b hb => (k.own b hb).elim (h.own b) (fun h2 => .inr (Nat.le_trans h.size h2)), fun k' v hv => k.rho _ _ (h.rho _ _ hv)⟩

theorem G.stp {Keep W W' : Nat → Prop} {ρ ρ' : Names} {w w' : World} (h : Stp W W' ρ ρ' w w') {s : SV} {v : Value}
    (hg : G (fun b => Keep b ∨ W b) W ρ w s v) : G (fun b => Keep b ∨ W' b) W' ρ' w' s v :=
  hg.mono h.size (fun b hb hn => ⟨fun hw => hw.elim (fun hk => hn (.inl hk)) (fun hw => (h.own b hw).elim (fun h1 => hn (.inr h1)) (fun h2 => by omega)), h.block b hb (fun hw => hn (.inr hw))⟩)
    (fun b hb hn => ⟨fun hw => (h.own b hw).elim hn (fun h2 => by omega), h.block b hb hn⟩) h.rho

theorem D.stp {Keep W W' : Nat → Prop} {ρ ρ' : Names} {w w' : World} (h : Stp W W' ρ ρ' w w') {s : SV} {v : Value}
    (hg : D (fun b => Keep b ∨ W b) w s v) : D (fun b => Keep b ∨ W' b) w' s v :=
  hg.mono h.size (fun b hb hn => ⟨fun hw => hw.elim (fun hk => hn (.inl hk)) (fun hw => (h.own b hw).elim (fun h1 => hn (.inr h1)) (fun h2 => by omega)), h.block b hb (fun hw => hn (.inr hw))⟩)

/-- Operation 'o', carried out, leaves a value of which 'R' holds. -/
def Does (P : Program) (o : Oper) (a : Act) (w : World) (R : Value → World → Prop) : Prop :=
  o.wp P a w (fun a' w' => ∃ v, a' = a.put o.dst v ∧ R v w') (fun _ _ _ => False)

theorem Does.value {P : Program} {o : Oper} {a : Act} {w w' : World} {R : Value → World → Prop} {v : Value}
    (h : (execOp a.eval o).run P w = .ok (.value v) w') (hr : R v w') : Does P o a w R := by
  unfold Does Oper.wp; rw [h]; exact ⟨v, rfl, hr⟩

theorem Does.skip {P : Program} {o : Oper} {a : Act} {w w' : World} {R : Value → World → Prop}
    (h : (execOp a.eval o).run P w = .ok .skip w') (hr : R undef w') : Does P o a w R := by
  unfold Does Oper.wp; rw [h]; exact ⟨undef, rfl, hr⟩

theorem Does.call {P : Program} {o : Oper} {a : Act} {w w' : World} {R : Value → World → Prop} {f : FuncId} {args : Array Value}
    (h : (execOp a.eval o).run P w = .ok (.enter f args) w') (hc : Calls P f args w' fun e w'' => ∃ v, e = .returned v ∧ R v w'') : Does P o a w R := by
  unfold Does Oper.wp; rw [h]
  refine hc.mono ?_
  rintro e w'' ⟨v, rfl, hr⟩
  exact ⟨v, rfl, hr⟩

theorem Does.mono {P : Program} {o : Oper} {a : Act} {w : World} {R R' : Value → World → Prop} (h : Does P o a w R) (hr : ∀ v w', R v w' → R' v w') : Does P o a w R' := by
  unfold Does at *
  exact Oper.wp_mono (fun a' w' ⟨v, e, r⟩ => ⟨v, e, hr v w' r⟩) h

/-- What 'o' leaves, and what follows. -/
theorem Does.wp {P : Program} {o : Oper} {a : Act} {w : World} {R : Value → World → Prop} {K : Act → World → Prop} {Q : Exit → Act → World → Prop}
    (h : Does P o a w R) (hk : ∀ v w', R v w' → K (a.put o.dst v) w') : o.wp P a w K Q := by
  unfold Does Oper.wp at *
  generalize (execOp a.eval o).run P w = r at *
  cases r with
  | ok n w' =>
    cases n <;> simp only [Oper.upon] at h ⊢
    case value v => obtain ⟨u, e, hr⟩ := h; rw [e]; exact hk u w' hr
    case skip => obtain ⟨u, e, hr⟩ := h; rw [e]; exact hk u w' hr
    case defer d => obtain ⟨u, e, hr⟩ := h; rw [e]; exact hk u w' hr
    case enter f args =>
      refine Calls.mono h ?_
      intro e w'' he
      cases e with
      | returned v => obtain ⟨u, e, hr⟩ := he; show K (a.put o.dst v) w''; rw [e]; exact hk u w'' hr
      | panicked c => exact he.elim
      | outgrown => obtain ⟨_, _, hf⟩ := he; exact hf.elim
    case row row args =>
      exact Rows.mono h (fun v w' ⟨u, e, hr⟩ => by show K (a.put o.dst v) w'; rw [e]; exact hk u w' hr)
  | halt x w' => cases x <;> simp only [Oper.upon] at h

/-- What an operation leaves, said of the blocks of one's own. -/
def After (Keep : Nat → Prop) (M : List (Nat × Mem)) (ρ : Names) (w : World) (κ : Nat) (s : SV) (md : MD) (v : Value) (w' : World) : Prop :=
  ∃ ρ', Stp (Own M ρ) (Own (appM M κ md) ρ') ρ ρ' w w' ∧ MemOK Keep (appM M κ md) ρ' w' ∧
    G (fun b => Keep b ∨ Own (appM M κ md) ρ' b) (Own (appM M κ md) ρ') ρ' w' s v ∧ ∀ k, (k ≠ κ ∨ appK κ md = κ) → ρ' k = ρ k

def isPush : MD → Bool
  | .push _ => true
  | .repl _ _ => true
  | _ => false

/-- Operations of this form, with these operands, do this. -/
def OpOK (P : Program) (op : Op) (svs : List SV) (lm : Nat → Option Mem) (κ : Nat) (s : SV) (md : MD) : Prop :=
  ∀ (o : Oper), o.op = op → ∀ (Keep : Nat → Prop) (M : List (Nat × Mem)) (ρ : Names) (a : Act) (w : World),
    (∀ k m, lm k = some m → lookM M k = some m) → MemOK Keep M ρ w → (isPush md = true → ρ κ = none) → (isPush md = true → ∀ m, (κ, m) ∉ M) →
    Gs (fun b => Keep b ∨ Own M ρ b) (Own M ρ) ρ w svs ((operandsL op).map a.eval) → Does P o a w (After Keep M ρ w κ s md)

theorem mem_lookM {M : List (Nat × Mem)} {k : Nat} {m : Mem} (h : lookM M k = some m) : (k, m) ∈ M := by
  induction M with
  | nil => simp [lookM] at h
  | cons x r ih =>
    obtain ⟨k', m'⟩ := x
    simp only [lookM] at h
    split at h
    · rename_i hb
      have := Nat.eq_of_beq_eq_true hb
      cases h; subst this; exact .head _
    · exact .tail _ (ih h)

/-- The world is as it was, and so are the blocks. -/
theorem After.same {Keep : Nat → Prop} {M : List (Nat × Mem)} {ρ : Names} {w : World} {κ : Nat} {s : SV} {v : Value} (hm : MemOK Keep M ρ w)
    (hg : G (fun b => Keep b ∨ Own M ρ b) (Own M ρ) ρ w s v) : After Keep M ρ w κ s .none v w :=
  ⟨ρ, .refl, hm, hg, fun _ _ => rfl⟩

end Go.Gs
