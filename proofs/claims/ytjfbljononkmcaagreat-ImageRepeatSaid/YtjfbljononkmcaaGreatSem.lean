/- What the symbolic values and states mean, and what a contract of a function says. -/
import Derived.Test.YtjfbljononkmcaaGreatDef
import Derived.Laws.AppendOwn
namespace Go.Gs

/-- Data that does not change: 'S' are the blocks in which it does not lie. -/
inductive D (S : Nat → Prop) (w : World) : SV → Value → Prop
  | val (v : Value) : D S w (.val v) v
  | pr (p : Prop) (i : Decidable p) : D S w (.pr p i) (.bool (@decide p i))
  | agg (cs : List SV) (vs : List Value) (hl : vs.length = cs.length)
      (h : ∀ (j : Nat) (s : SV) (v : Value), cs[j]? = some s → vs[j]? = some v → D S w s v) : D S w (.agg cs) (.agg vs.toArray)
  | nil {α : Type} (enc : α → List SV) (a : Option Addr) : D S w (.sl enc []) (.slice a 0 0)
  | nils (a : Option Addr) : D S w .nils (.slice a 0 0)
  | anyb (b : Bool) : D S w .anyb (.bool b)
  | junk (v : Value) : D S w .junk v
  | full {α : Type} (enc : α → List SV) (xs : List α) (a : Option Addr) (h : D S w (.sl enc xs) (.slice a xs.length xs.length)) : D S w (.full enc xs) (.slice a xs.length xs.length)
  | sl {α : Type} (enc : α → List SV) (xs : List α) (sz b o cap : Nat) (c : Nat → Nat → Value) (hb : b < w.heap.size) (hS : ¬ S b)
      (hlen : xs.length ≤ 9223372036854775807) (hcap : xs.length ≤ cap) (hsz : ∀ x ∈ xs, (enc x).length = sz)
      (hc : ∀ i j, i < xs.length → j < sz → w.cell? ⟨b, o + i * sz + j, none⟩ = some (c i j) ∧ (c i j).oneCell' = true)
      (h : ∀ (i j : Nat) (x : α) (s : SV), xs[i]? = some x → (enc x)[j]? = some s → D S w s (c i j)) :
      D S w (.sl enc xs) (.slice (some ⟨b, o, none⟩) xs.length cap)

/-- The names of the blocks of one's own: what each name stands for. -/
abbrev Names := Nat → Option Value

/-- What a symbolic value says of a value; 'ρ' names the blocks of one's own. -/
inductive G (S Pm : Nat → Prop) (ρ : Names) (w : World) : SV → Value → Prop
  | d (s : SV) (v : Value) (h : D S w s v) : G S Pm ρ w s v
  | loc (k off b : Nat) (h : ρ k = some (.pointer (some ⟨b, 0, none⟩))) : G S Pm ρ w (.loc k off) (.pointer (some ⟨b, off, none⟩))
  | own (k : Nat) (v : Value) (h : ρ k = some v) (h1 : v.oneCell' = true) : G S Pm ρ w (.own k) v
  | eloc (k sz : Nat) (i : Int) (off b len cap : Nat) (h : ρ k = some (.slice (some ⟨b, 0, none⟩) len cap)) :
      G S Pm ρ w (.eloc k sz i off) (.pointer (some ⟨b, i.toNat * sz + off, none⟩))
  | win (k sz : Nat) (lo n : Int) (b len cap cap' : Nat) (h : ρ k = some (.slice (some ⟨b, 0, none⟩) len cap)) (h1 : lo.toNat + n.toNat ≤ len) (h2 : n.toNat ≤ cap') :
      G S Pm ρ w (.win k sz lo n) (.slice (some ⟨b, lo.toNat * sz, none⟩) n.toNat cap')
  | ptr (cs : List SV) (b o : Nat) (c : Nat → Value) (hb : b < w.heap.size) (hP : ¬ Pm b)
      (hc : ∀ j, j < cs.length → w.cell? ⟨b, o + j, none⟩ = some (c j) ∧ (c j).oneCell' = true)
      (h : ∀ (j : Nat) (s : SV), cs[j]? = some s → D S w s (c j)) : G S Pm ρ w (.ptr cs) (.pointer (some ⟨b, o, none⟩))
  | agg (cs : List SV) (vs : List Value) (hl : vs.length = cs.length)
      (h : ∀ (j : Nat) (s : SV) (v : Value), cs[j]? = some s → vs[j]? = some v → G S Pm ρ w s v) : G S Pm ρ w (.agg cs) (.agg vs.toArray)
  | tup (cs : List SV) (vs : List Value) (hl : vs.length = cs.length)
      (h : ∀ (j : Nat) (s : SV) (v : Value), cs[j]? = some s → vs[j]? = some v → G S Pm ρ w s v) : G S Pm ρ w (.tup cs) (.tuple vs.toArray)
  | fn (f : FuncId) (cs : List SV) (vs : List Value) (hl : vs.length = cs.length)
      (h : ∀ (j : Nat) (s : SV) (v : Value), cs[j]? = some s → vs[j]? = some v → G S Pm ρ w s v) : G S Pm ρ w (.fn f cs) (.func (.func f) #[] vs.toArray)

/-- A list of symbolic values says this of a list of values. -/
def Gs (S Pm : Nat → Prop) (ρ : Names) (w : World) (cs : List SV) (vs : List Value) : Prop :=
  vs.length = cs.length ∧ ∀ (j : Nat) (s : SV) (v : Value), cs[j]? = some s → vs[j]? = some v → G S Pm ρ w s v

def blkOf : Value → Option Nat
  | .pointer (some a) => some a.block
  | .slice (some a) _ _ => some a.block
  | .map (some r) => some r
  | _ => none

/-- The blocks of one's own. -/
def Own (M : List (Nat × Mem)) (ρ : Names) (b : Nat) : Prop := ∃ k m v, (k, m) ∈ M ∧ ρ k = some v ∧ blkOf v = some b

/-- What is said of one block of one's own. -/
def MRel (S Pm : Nat → Prop) (ρ : Names) (w : World) (k : Nat) : Mem → Prop
  | .box T cs => ∃ b vs, ρ k = some (.pointer (some ⟨b, 0, none⟩)) ∧ w.heap[b]? = some (.cells (List.toArray vs) T (0, 0)) ∧
      vs.length = cs.length ∧ (∀ v ∈ vs, v.oneCell' = true) ∧ ∀ (j : Nat) (s : SV) (v : Value), cs[j]? = some s → vs[j]? = some v → G S Pm ρ w s v
  | .arr T enc sz xs => ∃ v cells, ρ k = some v ∧ w.ownsRow 0 T sz v xs.length cells ∧ xs.length ≤ 281474976710656 ∧ (∀ u ∈ cells, u.oneCell' = true) ∧
      (∀ x ∈ xs, (enc x).length = sz) ∧
      ∀ (i j : Nat) x (s : SV), xs[i]? = some x → (enc x)[j]? = some s → ∃ u, cells[i * sz + j]? = some u ∧ D S w s u
  | .garr T sz xs => ∃ v cells, ρ k = some v ∧ w.ownsRow 0 T sz v xs.length cells ∧ xs.length ≤ 281474976710656 ∧ (∀ u ∈ cells, u.oneCell' = true) ∧
      (∀ x ∈ xs, x.length = sz) ∧
      ∀ (i j : Nat) x (s : SV), xs[i]? = some x → x[j]? = some s → ∃ u, cells[i * sz + j]? = some u ∧ G S Pm ρ w s u
  | .map es => ∃ r ents clock, ρ k = some (.map (some r)) ∧ w.heap[r]? = some (.map ents clock) ∧ ents.size = es.length ∧
      ∀ (i : Nat) (n : Int) (s : SV), es[i]? = some (n, s) → ∃ e, ents[i]? = some e ∧ e.key = .int .i64 n ∧ D S w s e.val

/-- The blocks of one's own, all of them. -/
structure MemOK (Keep : Nat → Prop) (M : List (Nat × Mem)) (ρ : Names) (w : World) : Prop where
  rel : ∀ k m, (k, m) ∈ M → MRel (fun b => Keep b ∨ Own M ρ b) (Own M ρ) ρ w k m
  keys : M.Pairwise fun a b => a.1 ≠ b.1
  apart : ∀ k m k' m' v v' b, (k, m) ∈ M → (k', m') ∈ M → k ≠ k' → ρ k = some v → ρ k' = some v' → blkOf v = some b → blkOf v' ≠ some b
  old : ∀ b, Own M ρ b → b < w.heap.size ∧ ¬ Keep b
  kp : ∀ b, Keep b → b < w.heap.size

/-- The print is the same, and no cell is shared with a string that was not. -/
def SameOut (w w' : World) : Prop := w'.output = w.output ∧ ∀ a, w'.frozen? a = w.frozen? a

/-- From 'w' to 'w'': new blocks, and changes to the blocks of 'W' alone; 'W'' are the blocks of one's own then. -/
structure Stp (W W' : Nat → Prop) (ρ ρ' : Names) (w w' : World) : Prop where
  os : w'.os = w.os
  tape : w'.tape = w.tape
  output : SameOut w w'
  size : w.heap.size ≤ w'.heap.size
  block : ∀ b, b < w.heap.size → ¬ W b → w'.heap[b]? = w.heap[b]?
  own : ∀ b, W' b → W b ∨ w.heap.size ≤ b
  rho : ∀ k v, ρ k = some v → ρ' k = some v

/-- THE CONTRACT OF A FUNCTION: called with such arguments, and such blocks that it may write, it returns such a value and leaves such blocks. -/
def Callable (P : Program) (f : FuncId) : Prop := ∃ fn, P.funcs[f]? = some fn ∧ (fn.name == "runtime.NumGoroutine") = false ∧ fn.body.isNone = false
def CallsG (P : Program) (f : FuncId) (args : List SV) (M : List (Nat × Mem)) (r : SV) (M' : List (Nat × Mem)) : Prop :=
  Callable P f ∧ ∀ (Keep : Nat → Prop) (ρ : Names) (w : World) (vs : List Value), (∀ b, Keep b → b < w.heap.size) → MemOK Keep M ρ w → (∀ k, M.length ≤ k → ρ k = none) →
    Gs (fun b => Keep b ∨ Own M ρ b) (Own M ρ) ρ w args vs →
    Calls P f vs.toArray w fun e w' => ∃ v ρ', e = .returned v ∧ Stp (Own M ρ) (Own M' ρ') ρ ρ' w w' ∧ MemOK Keep M' ρ' w' ∧
      G (fun b => Keep b ∨ Own M' ρ' b) (Own M' ρ') ρ' w' r v

structure Env where
  w0 : World
  ρ0 : Names
  Keep : Nat → Prop
  W0 : Nat → Prop

/-- What an abstract state says of a frame and a world. -/
structure Rel (E : Env) (σ : St) (ρ : Names) (a : Act) (w : World) : Prop where
  size : a.tmps.size = σ.nt
  defers : a.defers = []
  regs : ∀ t s, look σ.L t = some s → t < σ.nt ∧ G (fun b => E.Keep b ∨ Own σ.M ρ b) (Own σ.M ρ) ρ w s (a.tmps.getD t undef)
  mem : MemOK E.Keep σ.M ρ w
  fresh : ∀ k, σ.nk ≤ k → ρ k = none
  stp : Stp E.W0 (Own σ.M ρ) E.ρ0 ρ E.w0 w
  keep : ∀ b, E.Keep b → b < E.w0.heap.size
  low : ∀ k v, E.ρ0 k = some v → k < σ.n0

end Go.Gs
