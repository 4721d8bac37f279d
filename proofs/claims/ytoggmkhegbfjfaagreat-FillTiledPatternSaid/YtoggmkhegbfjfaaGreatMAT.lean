/- Arguments of any shape, laid open: integers, bools, slices, structs, arrays, one within the other. -/
import Derived.Test.YtoggmkhegbfjfaaGreatMAS
import Derived.Test.YtoggmkhegbfjfaaGreatMAM
import Derived.Test.YtoggmkhegbfjfaaGreatChecked
import Derived.Test.YtoggmkhegbfjfaaGreatMAQ
import Derived.Test.YtoggmkhegbfjfaaGreatMAP
import Derived.Test.YtoggmkhegbfjfaaGreatRows
import Derived.WalkKit
import Derived.ProofKit
import Derived.OpenShut
import Derived.JoinedOf
namespace Go.Gs
open Go.ChangeShapes Go.WideShapes Go.Deep Go.Joins Go.RowKit

/-- The shape of a type. 'st': a struct, 'ar': an array; the parts stand one behind the other ('cons', 'nil'). -/
inductive Sh
  | int (k : IntKind)
  | bool
  | sl (e : Sh)
  | st (fs : Sh)
  | ar (es : Sh)
  | nil
  | cons (f r : Sh)

/-- What a value of the shape is. -/
def Sh.T : Sh → Type
  | .int _ => Int
  | .bool => Bool
  | .sl e => List e.T
  | .st fs => fs.T
  | .ar es => es.T
  | .nil => Unit
  | .cons f r => f.T × r.T
def Sh.dflt : (s : Sh) → s.T
  | .int _ => (0 : Int)
  | .bool => false
  | .sl _ => []
  | .st fs => fs.dflt
  | .ar es => es.dflt
  | .nil => ()
  | .cons f r => (f.dflt, r.dflt)
/-- How many cells. -/
def Sh.n : Sh → Nat
  | .int _ => 1
  | .bool => 1
  | .sl _ => 1
  | .st fs => fs.n
  | .ar es => es.n
  | .nil => 0
  | .cons f r => f.n + r.n
def Sh.enc : (s : Sh) → s.T → List SV
  | .int k, n => [.val (.int k n)]
  | .bool, b => [.pr (@Eq Bool b true) (instDecidableEqBool b true)]
  | .sl e, xs => [.sl e.enc xs]
  | .st fs, x => fs.enc x
  | .ar es, x => es.enc x
  | .nil, _ => []
  | .cons f r, x => f.enc x.1 ++ r.enc x.2
def Sh.wf : (s : Sh) → s.T → Prop
  | .int k, n => (Lit.int k n).wf = true
  | .bool, _ => True
  | .sl e, xs => ∀ x : e.T, @Membership.mem e.T (List e.T) _ xs x → e.wf x
  | .st fs, x => fs.wf x
  | .ar es, x => es.wf x
  | .nil, _ => True
  | .cons f r, x => f.wf x.1 ∧ r.wf x.2

/-- Which types are of the shape: .1 of a type, .2.1 of the fields of a struct from an offset on, .2.2 of so many elements of an array. -/
def Sh.fit (P : Program) : Sh → (TypeId → Bool) × (List Field → Nat → Bool) × (Nat → TypeId → Bool)
  | .int k => (fun t => match P.underlying t with
    | some (.int k') => kBeq k k' && Nat.beq (P.cellsOf t) 1
    | _ => false, fun _ _ => false, fun _ _ => false)
  | .bool => (fun t => match P.underlying t with
    | some .bool => Nat.beq (P.cellsOf t) 1
    | _ => false, fun _ _ => false, fun _ _ => false)
  | .sl e => (fun t => match P.underlying t with
    | some (.slice u) => (e.fit P).1 u && Nat.beq (P.cellsOf t) 1 && Nat.blt 0 e.n
    | _ => false, fun _ _ => false, fun _ _ => false)
  | .st fs => (fun t => match P.underlying t with
    | some (.struct gs) => (fs.fit P).2.1 gs.toList 0 && Nat.beq (P.cellsOf t) fs.n
    | _ => false, fun _ _ => false, fun _ _ => false)
  | .ar es => (fun t => match P.underlying t with
    | some (.array n u) => (es.fit P).2.2 n u && Nat.beq (P.cellsOf t) es.n
    | _ => false, fun _ _ => false, fun _ _ => false)
  | .nil => (fun _ => false, fun gs _ => match gs with
    | [] => true
    | _ => false, fun n _ => match n with
    | 0 => true
    | _ => false)
  | .cons f r => (fun _ => false, fun gs off => match gs with
    | [] => false
    | g :: gs => Nat.beq g.offset off && (f.fit P).1 g.type && (r.fit P).2.1 gs (off + f.n), fun n u => match n with
    | 0 => false
    | n + 1 => (f.fit P).1 u && (r.fit P).2.2 n u)

theorem Sh.enc_len : ∀ (s : Sh) (x : s.T), (s.enc x).length = s.n
  | .int _, _ => rfl
  | .bool, _ => rfl
  | .sl _, _ => rfl
  | .st fs, x => Sh.enc_len fs x
  | .ar es, x => Sh.enc_len es x
  | .nil, _ => rfl
  | .cons f r, x => by
    show (f.enc x.1 ++ r.enc x.2).length = f.n + r.n
    rw [List.length_append, Sh.enc_len f, Sh.enc_len r]

/-- Cells that are what the symbolic values say, each of them one cell. -/
def Dc (S : Nat → Prop) (w : World) (cs : List SV) (vs : List Value) : Prop :=
  vs.length = cs.length ∧ ∀ (j : Nat) (s : SV) (v : Value), cs[j]? = some s → vs[j]? = some v → D S w s v ∧ v.oneCell' = true
theorem Dc.nil {S : Nat → Prop} {w : World} : Dc S w [] [] := ⟨rfl, fun j s v h => by simp at h⟩
theorem Dc.append {S : Nat → Prop} {w : World} {cs ds : List SV} {vs us : List Value} (h : Dc S w cs vs) (k : Dc S w ds us) : Dc S w (cs ++ ds) (vs ++ us) := by
  refine ⟨by rw [List.length_append, List.length_append, h.1, k.1], fun j s v hs hv => ?_⟩
  by_cases hj : j < cs.length
  · rw [List.getElem?_append_left hj] at hs
    rw [List.getElem?_append_left (by rw [h.1]; exact hj)] at hv
    exact h.2 j s v hs hv
  · rw [List.getElem?_append_right (by omega)] at hs
    rw [List.getElem?_append_right (by rw [h.1]; omega), h.1] at hv
    exact k.2 _ s v hs hv
theorem Dc.one {S : Nat → Prop} {w : World} {s : SV} {v : Value} (h : D S w s v) (ho : v.oneCell' = true) : Dc S w [s] [v] := ⟨rfl, fun j s' v' hs hv => by
  match j with
  | 0 => simp at hs hv; subst hs; subst hv; exact ⟨h, ho⟩
  | j + 1 => simp at hs⟩

section
variable {H : Type} {enc : TypeId × Value → H} {P : Program} {W : World} {held : Bool}

theorem take_split (L : List Value) (off a b : Nat) : (L.drop off).take (a + b) = (L.drop off).take a ++ (L.drop (off + a)).take b := by
  rw [List.take_add, List.drop_drop]

/-- A value that is read, of a shape. -/
theorem open_sh : ∀ s : Sh,
    ((∀ (t : TypeId) (fuel : Nat) (L : List Value) (x : DataW H × List MemPlace), (s.fit P).1 t = true → DataW.trod enc P W 0 (fun _ => true) held fuel t L = some x →
      P.cellsOf t = s.n ∧ L.length = s.n ∧ ∃ y : s.T, s.wf y ∧ ∀ S : Nat → Prop, (∀ b, ¬ S b) → Dc S W (s.enc y) L)) ∧
    (∀ (gs : List Field) (off m : Nat) (L : List Value), (s.fit P).2.1 gs off = true → (∀ g ∈ gs, ∃ x, DataW.trod enc P W 0 (fun _ => true) held m g.type ((L.drop g.offset).take (P.cellsOf g.type)) = some x) →
      ∃ y : s.T, s.wf y ∧ ∀ S : Nat → Prop, (∀ b, ¬ S b) → Dc S W (s.enc y) ((L.drop off).take s.n)) ∧
    (∀ (n i m : Nat) (u : TypeId) (L : List Value), (s.fit P).2.2 n u = true → (∀ j, j < n → ∃ x, DataW.trod enc P W 0 (fun _ => true) held m u ((L.drop ((i + j) * P.cellsOf u)).take (P.cellsOf u)) = some x) →
      ∃ y : s.T, s.wf y ∧ ∀ S : Nat → Prop, (∀ b, ¬ S b) → Dc S W (s.enc y) ((L.drop (i * P.cellsOf u)).take s.n)) := by
  intro s
  induction s with
  | int k =>
    refine ⟨fun t fuel L x hf h => ?_, fun _ _ _ _ hf _ => (by cases hf), fun _ _ _ _ _ hf _ => (by cases hf)⟩
    unfold Sh.fit at hf
    dsimp only at hf
    split at hf
    · rename_i k' hk
      simp only [Bool.and_eq_true] at hf
      obtain ⟨hk', hc⟩ := hf
      have hk' := kBeq_eq hk'
      subst hk'
      obtain ⟨q, rfl, _, hw⟩ := DataW.trod_int hk h
      exact ⟨Nat.eq_of_beq_eq_true hc, rfl, q, hw, fun S _ => .one (.val _) rfl⟩
    · cases hf
  | bool =>
    refine ⟨fun t fuel L x hf h => ?_, fun _ _ _ _ hf _ => (by cases hf), fun _ _ _ _ _ hf _ => (by cases hf)⟩
    unfold Sh.fit at hf
    dsimp only at hf
    split at hf
    · rename_i hk
      obtain ⟨b, rfl, _⟩ := DataW.trod_bool hk h
      refine ⟨Nat.eq_of_beq_eq_true hf, rfl, b, trivial, fun S _ => .one ?_ rfl⟩
      have := D.pr (S := S) (w := W) (b = true) inferInstance
      rwa [show decide (b = true) = b by cases b <;> rfl] at this
    · cases hf
  | sl e ih =>
    refine ⟨fun t fuel L x hf h => ?_, fun _ _ _ _ hf _ => (by cases hf), fun _ _ _ _ _ hf _ => (by cases hf)⟩
    unfold Sh.fit at hf
    dsimp only at hf
    split at hf
    · rename_i u hk
      simp only [Bool.and_eq_true] at hf
      obtain ⟨⟨he, hc⟩, hpos⟩ := hf
      have hpos : 0 < e.n := by simpa using hpos
      refine ⟨Nat.eq_of_beq_eq_true hc, ?_⟩
      rcases open_slice hk h with ⟨rfl, _⟩ | ⟨a, len, cap, m, n, Df, Pl, rfl, _, hl, hm, hmm, _, hi⟩
      · exact ⟨rfl, ([] : List e.T), fun x hx => (by cases hx), fun S _ => .one (.nil _ _) rfl⟩
      have hmc : m = cap := by simpa using hmm
      subst hmc
      refine ⟨rfl, ?_⟩
      have key : ∀ i, i < m → ∃ cs', P.cellsOf u = e.n ∧ W.cells? 0 (a.add (i * e.n)) e.n = some cs' ∧ ∃ y : e.T, e.wf y ∧ ∀ S : Nat → Prop, (∀ b, ¬ S b) → Dc S W (e.enc y) cs' := fun i hi' => by
        obtain ⟨cs', h1, h2⟩ := hi i hi'
        obtain ⟨g1, g2, g3⟩ := ih.1 u n cs' _ he h2
        rw [g1] at h1
        exact ⟨cs', g1, h1, g3⟩
      by_cases h0 : m = 0
      · subst h0
        have : len = 0 := by omega
        subst this
        exact ⟨([] : List e.T), fun x hx => (by cases hx), fun S _ => .one (.nil _ _) rfl⟩
      have hspot : a.spot = none ∧ a.block < W.heap.size := by
        obtain ⟨cs', _, h1, _⟩ := key 0 (by omega)
        obtain ⟨_, _, hat⟩ := World.cells?_some h1
        have h2 := hat 0 hpos
        have hlen : cs'.length = e.n := by obtain ⟨_, hl, _⟩ := World.cells?_some h1; exact hl
        rw [List.getElem?_eq_getElem (by omega), Nat.zero_mul] at h2
        have : (a.add 0).add 0 = a := by unfold Addr.add; simp
        rw [this] at h2
        unfold World.cell? at h2
        split at h2
        · rename_i hb
          split at h2
          · cases h2
          · rename_i hs
            refine ⟨by simpa using hs, (Array.getElem?_eq_some_iff.1 hb).1⟩
        · cases h2
      obtain ⟨b, o, sp⟩ := a
      obtain ⟨hs, hb⟩ := hspot
      have hs : sp = none := hs
      subst hs
      haveI : Inhabited e.T := ⟨e.dflt⟩
      obtain ⟨F, hF⟩ := choose_lt (α := e.T) (n := m) (p := fun i y => ∃ cs', W.cells? 0 (Addr.add ⟨b, o, none⟩ (i * e.n)) e.n = some cs' ∧ e.wf y ∧ ∀ S : Nat → Prop, (∀ b, ¬ S b) → Dc S W (e.enc y) cs') (fun i hi' => by
        obtain ⟨cs', _, h1, y, hy, hd⟩ := key i hi'
        exact ⟨y, cs', h1, hy, hd⟩)
      refine ⟨(List.range len).map F, fun x hx => ?_, fun S hS => .one ?_ rfl⟩
      · obtain ⟨i, hi', rfl⟩ := List.mem_map.1 hx
        obtain ⟨_, _, hw, _⟩ := hF i (by have := List.mem_range.1 hi'; omega)
        exact hw
      · have at1 : ∀ i j, i < m → j < e.n → ∃ v, W.cell? ⟨b, o + i * e.n + j, none⟩ = some v ∧ v.oneCell' = true ∧ ∀ s, (e.enc (F i))[j]? = some s → D S W s v := fun i j hi' hj => by
          obtain ⟨cs', h1, _, hd⟩ := hF i hi'
          obtain ⟨_, hlen, hat⟩ := World.cells?_some h1
          have h2 := hat j hj
          rw [List.getElem?_eq_getElem (by omega), add_add] at h2
          have e1 : Addr.add ⟨b, o, none⟩ (i * e.n + j) = ⟨b, o + i * e.n + j, none⟩ := by rw [addr_add, ← Nat.add_assoc]
          rw [e1] at h2
          have hd := hd S hS
          have hjl : j < (e.enc (F i)).length := by rw [Sh.enc_len]; exact hj
          have := hd.2 j _ _ (List.getElem?_eq_getElem hjl) (List.getElem?_eq_getElem (show j < cs'.length by omega))
          refine ⟨_, h2, this.2, fun s hs => ?_⟩
          exact (hd.2 j s _ hs (List.getElem?_eq_getElem (show j < cs'.length by omega))).1
        have hsl := D.sl (S := S) (w := W) e.enc ((List.range len).map F) e.n b o m (fun i j => (W.cell? ⟨b, o + i * e.n + j, none⟩).getD undef) hb (hS b) (by simp; unfold maxLen at hm; omega) (by simpa using hl) (fun x _ => Sh.enc_len e x) (fun i j hi' hj => by
          obtain ⟨v, h1, h2, _⟩ := at1 i j (by simp at hi'; omega) hj
          rw [h1]; exact ⟨rfl, h2⟩) (fun i j x s hx hs => by
          have hi' : i < len := by have := (List.getElem?_eq_some_iff.1 hx).1; simpa using this
          simp only [List.getElem?_map, List.getElem?_range hi', Option.map_some, Option.some.injEq] at hx
          subst hx
          have hj : j < e.n := by have := (List.getElem?_eq_some_iff.1 hs).1; rw [Sh.enc_len] at this; exact this
          obtain ⟨v, h1, _, h3⟩ := at1 i j (by omega) hj
          rw [h1]; exact h3 s hs)
        simpa using hsl
    · cases hf
  | st fs ih =>
    refine ⟨fun t fuel L x hf h => ?_, fun _ _ _ _ hf _ => (by cases hf), fun _ _ _ _ _ hf _ => (by cases hf)⟩
    unfold Sh.fit at hf
    dsimp only at hf
    split at hf
    · rename_i gs hk
      simp only [Bool.and_eq_true] at hf
      obtain ⟨hg, hc⟩ := hf
      have hc := Nat.eq_of_beq_eq_true hc
      obtain ⟨xs, m, _, _, hl, hxl, hfl⟩ := DataW.trod_struct hk h
      obtain ⟨y, hy, hd⟩ := ih.2.1 gs.toList 0 m L hg (fun g hg' => by
        obtain ⟨i, hi, rfl⟩ := List.getElem_of_mem hg'
        have hi' : i < gs.size := by simpa using hi
        have := hfl i gs[i] (by simp [hi'])
        exact ⟨xs[i]'(by omega), by simpa [List.getElem?_eq_getElem (show i < xs.length by omega)] using this⟩)
      refine ⟨hc, hl.trans hc, y, hy, fun S hS => ?_⟩
      have := hd S hS
      rw [List.drop_zero, List.take_of_length_le (by show L.length ≤ fs.n; omega)] at this
      exact this
    · cases hf
  | ar es ih =>
    refine ⟨fun t fuel L x hf h => ?_, fun _ _ _ _ hf _ => (by cases hf), fun _ _ _ _ _ hf _ => (by cases hf)⟩
    unfold Sh.fit at hf
    dsimp only at hf
    split at hf
    · rename_i n u hk
      simp only [Bool.and_eq_true] at hf
      obtain ⟨hg, hc⟩ := hf
      have hc := Nat.eq_of_beq_eq_true hc
      obtain ⟨xs, m, _, _, hl, hxl, hfl⟩ := DataW.trod_array hk h
      obtain ⟨y, hy, hd⟩ := ih.2.2 n 0 m u L hg (fun j hj => by
        have := hfl j hj
        exact ⟨xs[j]'(by omega), by rw [Nat.zero_add, this, List.getElem?_eq_getElem (show j < xs.length by omega)]⟩)
      refine ⟨hc, hl.trans hc, y, hy, fun S hS => ?_⟩
      have := hd S hS
      rw [Nat.zero_mul, List.drop_zero, List.take_of_length_le (by show L.length ≤ es.n; omega)] at this
      exact this
    · cases hf
  | nil =>
    refine ⟨fun t fuel L x hf h => (by cases hf), fun gs off m L hf _ => ⟨(), trivial, fun S _ => ?_⟩, fun n i m u L hf _ => ⟨(), trivial, fun S _ => ?_⟩⟩
    · show Dc S W [] ((L.drop off).take 0)
      rw [List.take_zero]; exact .nil
    · show Dc S W [] ((L.drop _).take 0)
      rw [List.take_zero]; exact .nil
  | cons f r ihf ihr =>
    refine ⟨fun t fuel L x hf h => (by cases hf), fun gs off m L hf hx => ?_, fun n i m u L hf hx => ?_⟩
    · unfold Sh.fit at hf
      dsimp only at hf
      split at hf
      · cases hf
      · rename_i g gs
        simp only [Bool.and_eq_true] at hf
        obtain ⟨⟨ho, h1⟩, h2⟩ := hf
        have ho := Nat.eq_of_beq_eq_true ho
        subst ho
        obtain ⟨x, hx0⟩ := hx g (List.mem_cons_self ..)
        obtain ⟨g1, g2, y, hy, hd⟩ := ihf.1 g.type m _ x h1 hx0
        obtain ⟨z, hz, he⟩ := ihr.2.1 gs (g.offset + f.n) m L h2 (fun g' hg' => hx g' (List.mem_cons_of_mem _ hg'))
        refine ⟨(y, z), ⟨hy, hz⟩, fun S hS => ?_⟩
        show Dc S W (f.enc y ++ r.enc z) ((L.drop g.offset).take (f.n + r.n))
        rw [take_split]
        have := hd S hS
        rw [g1] at this
        exact this.append (he S hS)
    · unfold Sh.fit at hf
      dsimp only at hf
      split at hf
      · cases hf
      · rename_i n
        simp only [Bool.and_eq_true] at hf
        obtain ⟨h1, h2⟩ := hf
        obtain ⟨x, hx0⟩ := hx 0 (by omega)
        obtain ⟨g1, g2, y, hy, hd⟩ := ihf.1 u m _ x h1 hx0
        obtain ⟨z, hz, he⟩ := ihr.2.2 n (i + 1) m u L h2 (fun j hj => by
          have := hx (j + 1) (by omega)
          rwa [show i + (j + 1) = i + 1 + j by omega] at this)
        refine ⟨(y, z), ⟨hy, hz⟩, fun S hS => ?_⟩
        show Dc S W (f.enc y ++ r.enc z) ((L.drop (i * P.cellsOf u)).take (f.n + r.n))
        rw [take_split]
        have := hd S hS
        rw [Nat.add_zero, g1] at this
        have he := he S hS
        rw [g1, Nat.add_mul, Nat.one_mul] at he
        rw [g1]
        exact this.append he

theorem Dc.gs {S : Nat → Prop} {w : World} {cs : List SV} {vs : List Value} (h : Dc S w cs vs) {Pm : Nat → Prop} {ρ : Names} : Gs S Pm ρ w cs vs :=
  ⟨h.1, fun j s v hs hv => .d _ _ (h.2 j s v hs hv).1⟩

/-- An argument that is a struct or an array. -/
theorem open_arg {b0 : Nat} {t : TypeId} {v : Value} {d : DataW H} {p : List MemPlace} (s : Sh) (hf : (s.fit P).1 t = true) (ha : (match P.underlying t with | some (.struct _) => true | some (.array _ _) => true | _ => false) = true)
    (hv : Value.okWide P W .any b0 t v) (h : DataW.Trod enc P W 0 (fun _ => true) held t v d p) :
    ∃ y : s.T, s.wf y ∧ ∀ (S Pm : Nat → Prop) (ρ : Names), (∀ b, ¬ S b) → G S Pm ρ W (.agg (s.enc y)) v := by
  obtain ⟨fuel, hx⟩ := h
  obtain ⟨_, _, y, hy, hd⟩ := (open_sh s).1 t fuel _ _ hf hx
  have : ∃ cs, v = .agg cs := by
    unfold Value.okWide at hv
    split at ha
    · rename_i h1; rw [h1] at hv; obtain ⟨cs, rfl, _⟩ := hv; exact ⟨cs, rfl⟩
    · rename_i h1; rw [h1] at hv; obtain ⟨cs, rfl, _⟩ := hv; exact ⟨cs, rfl⟩
    · cases ha
  obtain ⟨cs, rfl⟩ := this
  refine ⟨y, hy, fun S Pm ρ hS => ?_⟩
  have g := (hd S hS).gs (Pm := Pm) (ρ := ρ)
  have := G.agg (S := S) (Pm := Pm) (ρ := ρ) (w := W) _ _ g.1 g.2
  rwa [show (Value.agg cs).cells.toList.toArray = cs from Array.toArray_toList] at this

/-- An argument that is a slice. -/
theorem open_argS {b0 : Nat} {t : TypeId} {v : Value} {d : DataW H} {p : List MemPlace} (e : Sh) (hf : (Sh.fit P (.sl e)).1 t = true)
    (hv : Value.okWide P W .any b0 t v) (h : DataW.Trod enc P W 0 (fun _ => true) held t v d p) :
    ∃ xs : List e.T, (∀ x ∈ xs, e.wf x) ∧ ∀ (S Pm : Nat → Prop) (ρ : Names), (∀ b, ¬ S b) → G S Pm ρ W (.sl e.enc xs) v := by
  obtain ⟨fuel, hx⟩ := h
  obtain ⟨_, hl, y, hy, hd⟩ := (open_sh (.sl e)).1 t fuel _ _ hf hx
  have hs : ∃ u, P.underlying t = some (.slice u) := by
    unfold Sh.fit at hf
    dsimp only at hf
    split at hf
    · exact ⟨_, ‹_›⟩
    · cases hf
  obtain ⟨u, hu⟩ := hs
  have : v.cells.toList = [v] := by
    unfold Value.okWide at hv
    rw [hu] at hv
    cases v <;> first | rfl | exact hv.elim | (obtain ⟨_, h, _⟩ := hv; cases h) | (simp [Cell.okWide, Cell.ok, hu] at hv)
  rw [this] at hd
  refine ⟨y, hy, fun S Pm ρ hS => ?_⟩
  have := (hd S hS).2 0 _ v rfl rfl
  exact .d _ _ this.1
end

/-- Data seen with less. -/
def LEd (s r : SV) : Prop := ∀ (S : Nat → Prop) (w : World) (v : Value), D S w s v → D S w r v
inductive LEds : List SV → List SV → Prop
  | nil : LEds [] []
  | cons {a b : SV} {us bs : List SV} (h : LEd a b) (t : LEds us bs) : LEds (a :: us) (b :: bs)
theorem LEd.refl {s : SV} : LEd s s := fun _ _ _ h => h
theorem LEds.refl : ∀ {us : List SV}, LEds us us
  | [] => .nil
  | _ :: _ => .cons .refl .refl
theorem LEds.append {us bs cs ds : List SV} (h : LEds us bs) (k : LEds cs ds) : LEds (us ++ cs) (bs ++ ds) := by
  induction h with
  | nil => exact k
  | cons h _ ih => exact .cons h ih
theorem LEds.ix {us bs : List SV} (h : LEds us bs) : us.length = bs.length ∧ ∀ (j : Nat) (s r : SV), us[j]? = some s → bs[j]? = some r → LEd s r := by
  induction h with
  | nil => exact ⟨rfl, fun j s r h => by simp at h⟩
  | cons h t ih =>
    refine ⟨by simp [ih.1], fun j s r hs hr => ?_⟩
    cases j with
    | zero => simp at hs hr; subst hs; subst hr; exact h
    | succ j => exact ih.2 j s r (by simpa using hs) (by simpa using hr)
theorem LEd.sl {α β : Type} {e : α → List SV} {g : β → List SV} (f : α → β) {xs : List α} (he : ∀ x ∈ xs, LEds (e x) (g (f x))) : LEd (.sl e xs) (.sl g (xs.map f)) := fun S w v h => by
  cases h with
  | nil _ a => exact .nil g a
  | sl _ _ sz b o cap c hb hS hlen hcap hsz hc h =>
    have := D.sl (S := S) (w := w) g (xs.map f) sz b o cap c hb hS (by simpa using hlen) (by simpa using hcap) (fun y hy => by
      obtain ⟨x, hx, rfl⟩ := List.mem_map.1 hy
      rw [← (he x hx).ix.1]; exact hsz x hx) (fun i j hi hj => hc i j (by simpa using hi) hj) (fun i j y s hy hs => by
      rw [List.getElem?_map] at hy
      cases hx : xs[i]? with
      | none => simp [hx] at hy
      | some x =>
        simp [hx] at hy
        subst hy
        have he := he x (List.mem_of_getElem? hx)
        have hj : j < (e x).length := by rw [he.ix.1]; exact (List.getElem?_eq_some_iff.1 hs).1
        have hs0 := List.getElem?_eq_getElem hj
        exact he.ix.2 j _ s hs0 hs _ _ _ (h i j x _ hx hs0))
    simpa using this
theorem LE_slL {α β : Type} {e : α → List SV} {g : β → List SV} (f : α → β) {xs : List α} (he : ∀ x ∈ xs, LEds (e x) (g (f x))) : LE (.sl e xs) (.sl g (xs.map f)) := fun _ _ _ _ _ hg => .d _ _ (LEd.sl f he _ _ _ hg.sl_inv)
theorem LEds.gs {us bs : List SV} (h : LEds us bs) {S Pm : Nat → Prop} {ρ : Names} {w : World} {vs : List Value} (hd : vs.length = us.length ∧ ∀ (j : Nat) (s : SV) (v : Value), us[j]? = some s → vs[j]? = some v → D S w s v) : Gs S Pm ρ w bs vs :=
  ⟨hd.1.trans h.ix.1, fun j r v hr hv => by
    have hj : j < us.length := by rw [h.ix.1]; exact (List.getElem?_eq_some_iff.1 hr).1
    have hs := List.getElem?_eq_getElem hj
    exact .d _ _ (h.ix.2 j _ r hs hr _ _ _ (hd.2 j _ v hs hv))⟩

section
variable {H : Type} {enc : TypeId × Value → H} {P : Program} {W : World} {held : Bool}
/-- An argument that is a struct or an array, seen otherwise. -/
theorem open_argL {b0 : Nat} {t : TypeId} {v : Value} {d : DataW H} {p : List MemPlace} (s : Sh) (hf : (s.fit P).1 t = true) (ha : (match P.underlying t with | some (.struct _) => true | some (.array _ _) => true | _ => false) = true)
    (hv : Value.okWide P W .any b0 t v) (h : DataW.Trod enc P W 0 (fun _ => true) held t v d p) :
    ∃ y : s.T, s.wf y ∧ ∀ (g : List SV), LEds (s.enc y) g → ∀ (S Pm : Nat → Prop) (ρ : Names), (∀ b, ¬ S b) → G S Pm ρ W (.agg g) v := by
  obtain ⟨fuel, hx⟩ := h
  obtain ⟨_, _, y, hy, hd⟩ := (open_sh s).1 t fuel _ _ hf hx
  have : ∃ cs, v = .agg cs := by
    unfold Value.okWide at hv
    split at ha
    · rename_i h1; rw [h1] at hv; obtain ⟨cs, rfl, _⟩ := hv; exact ⟨cs, rfl⟩
    · rename_i h1; rw [h1] at hv; obtain ⟨cs, rfl, _⟩ := hv; exact ⟨cs, rfl⟩
    · cases ha
  obtain ⟨cs, rfl⟩ := this
  refine ⟨y, hy, fun g hg S Pm ρ hS => ?_⟩
  have hd1 := hd S hS
  have g1 := hg.gs (Pm := Pm) (ρ := ρ) ⟨hd1.1, fun j s v hs hv => (hd1.2 j s v hs hv).1⟩
  have := G.agg (S := S) (Pm := Pm) (ρ := ρ) (w := W) _ _ g1.1 g1.2
  rwa [show (Value.agg cs).cells.toList.toArray = cs from Array.toArray_toList] at this

end

end Go.Gs
/- Great numbers and transforms among the arguments, laid open. -/
namespace Go.Gs
open Go.Proofs Go.RowKit

theorem laidOut : laidOutB Tryz.prog = true := by kernel_rfl
theorem wfi {n : Int} (h : (Lit.int .i64 n).wf = true) : R64 n := r64 h
theorem wf8 {n : Int} (h : (Lit.int .u8 n).wf = true) : R8 n := r8 h
theorem wfs8 {n : Int} (h : (Lit.int .i8 n).wf = true) : -128 ≤ n ∧ n ≤ 127 := by
  simp only [Lit.wf, Bool.and_eq_true, decide_eq_true_eq] at h
  exact h
theorem wf32 {n : Int} (h : (Lit.int .u32 n).wf = true) : 0 ≤ n ∧ n ≤ 4294967295 := by
  simp only [Lit.wf, Bool.and_eq_true, decide_eq_true_eq] at h
  exact h

def shI : Sh := .int .i64
def shB : Sh := .int .u8
def shInt : Sh := .st (.cons .bool (.cons (.sl (.int .u32)) .nil))
def shRat : Sh := .st (.cons shInt (.cons shInt .nil))
def shAf : Sh := .st (.cons shRat (.cons shRat (.cons shRat (.cons shRat (.cons shRat (.cons shRat .nil))))))
def toDig (n : Int) : Dig := dof n.toNat
def toBI (y : shInt.T) : BI := ⟨y.1, List.map toDig y.2.1⟩
def toBR (y : shRat.T) : BR := ⟨toBI y.1, toBI y.2.1⟩
def toAF (y : shAf.T) : AF := ⟨toBR y.1, toBR y.2.1, toBR y.2.2.1, toBR y.2.2.2.1, toBR y.2.2.2.2.1, toBR y.2.2.2.2.2.1⟩
theorem bi_le (y : shInt.T) (h : shInt.wf y) : LEds (shInt.enc y) (biE (toBI y)) := by
  refine .cons .refl (.cons ?_ .nil)
  refine LEd.sl toDig fun n hn => ?_
  have h1 := wf32 (h.2.1 n hn)
  have e : ((toDig n).val : Int) = n := by
    unfold toDig
    rw [dof_val]; omega
  show LEds [.val (.int .u32 n)] [.val (.int .u32 ((toDig n).val : Int))]
  rw [e]
  exact .refl
theorem br_le (y : shRat.T) (h : shRat.wf y) : LEds (shRat.enc y) (brE (toBR y)) := LEds.append (bi_le y.1 h.1) (LEds.append (bi_le y.2.1 h.2.1) .nil)
theorem af_le (y : shAf.T) (h : shAf.wf y) : LEds (shAf.enc y) (afE (toAF y)) :=
  LEds.append (br_le _ h.1) (LEds.append (br_le _ h.2.1) (LEds.append (br_le _ h.2.2.1) (LEds.append (br_le _ h.2.2.2.1) (LEds.append (br_le _ h.2.2.2.2.1) (by
    have := LEds.append (br_le _ h.2.2.2.2.2.1) .nil
    rwa [List.append_nil, List.append_nil] at this)))))

section
variable {H : Type} {enc : TypeId × Value → H} {W : World} {b0 : Nat} {held : Bool}
set_option maxRecDepth 100000 in
theorem open_affine {v : Value} {d : DataW H} {p : List MemPlace} (hv : Value.okWide Tryz.prog W .any b0 43 v) (h : DataW.Trod enc Tryz.prog W 0 (fun _ => true) held 43 v d p) :
    ∃ t : AF, ∀ (S Pm : Nat → Prop) (ρ : Names), (∀ b, ¬ S b) → G S Pm ρ W (.agg (afE t)) v := by
  obtain ⟨y, hy, g⟩ := open_argL shAf (by kernel_rfl) (by kernel_rfl) hv h
  exact ⟨toAF y, g _ (af_le y hy)⟩
end

end Go.Gs
/- Rows of a brush. -/
namespace Go.Gs
open Go.Proofs

def rowAt (f : Int → Int → Pix) (x y : Int) (i : Nat) : Pix := if 4096 < x then zeroP else f (x + i) y
def rowP (f : Int → Int → Pix) (x y : Int) (m : Nat) : List Pix := (List.range m).map (rowAt f x y)
theorem rowP_succ (f : Int → Int → Pix) (x y : Int) (m : Nat) : rowP f x y (m + 1) = rowP f x y m ++ [rowAt f x y m] := by
  simp [rowP, List.range_succ]
theorem rowP_len (f : Int → Int → Pix) (x y : Int) (m : Nat) : (rowP f x y m).length = m := by simp [rowP]
theorem pxOne (d : Pix) : [d].length = 1 ∧ 1 ≤ 281474976710656 ∧ 1 * 4 ≤ 16777216 ∧ 0 < 4 ∧ ∀ x ∈ [d], (pixE x).length = 4 ∧ cellsB (pixE x) = true ∧ flat.flats (pixE x) = true :=
  ⟨rfl, by decide, by decide, by decide, fun _ _ => ⟨rfl, rfl, rfl⟩⟩
theorem pxFst (d : Pix) : (([d].length : Int) * (4 : Nat) ≤ 140737488355328 ∧ [d].length ≤ 281474976710656 ∧ 0 < 4 ∧ ∀ x ∈ [d], (pixE x).length = 4) :=
  ⟨by show (1 : Int) * 4 ≤ _; decide, by show 1 ≤ _; decide, by decide, fun _ _ => rfl⟩
theorem pxApp {xs : List Pix} (d : Pix) (h : xs.length ≤ 100000) : ((xs.length + [d].length : Int) * (4 : Nat) ≤ 140737488355328 ∧ xs.length + [d].length ≤ 281474976710656 ∧ 0 < 4 ∧ ∀ x ∈ [d], (pixE x).length = 4) :=
  ⟨by simp only [List.length_singleton]; omega, by simp only [List.length_singleton]; omega, by decide, fun _ _ => rfl⟩

end Go.Gs
/- The laws Independent and NilBrush of paints. -/
namespace Go.Gs
open Go.Proofs

abbrev i8 (n : Int) : SV := .val (.int .i8 n)
def q8E (q : Pt) : List SV := [i8 q.x, i8 q.y]

theorem zeroP_ok : pxOK zeroP := by decide
theorem atP_ok {p : Pnt} {t : AF} {x y : Int} (h8 : P8p p) : pxOK (atP p t x y) := by
  unfold atP
  split
  · exact zeroP_ok
  split
  · exact preP_ok h8.1
  unfold srcP
  split
  · exact preP_ok (spCol_8 h8.2.1)
  split
  · exact preP_ok (spCol_8 h8.2.1)
  · exact smp_ok _ _ _ _ _ h8.2.2

def firstP (f : Int → Int → Pix) (l : List Pt) (i : Nat) : List Pix := (l.take i).map fun q => f q.x q.y
theorem firstP_len {f : Int → Int → Pix} {l : List Pt} {i : Nat} (h : i ≤ l.length) : (firstP f l i).length = i := by simp [firstP]; omega
theorem firstP_succ {f : Int → Int → Pix} {l : List Pt} {i : Nat} {q : Pt} (h : l[i]? = some q) : firstP f l (i + 1) = firstP f l i ++ [f q.x q.y] := by
  have hi := (List.getElem?_eq_some_iff.1 h).1
  have e := (List.getElem?_eq_some_iff.1 h).2
  unfold firstP
  rw [List.take_succ_eq_append_getElem hi, List.map_append, e]; rfl
theorem firstP_at {f : Int → Int → Pix} {l : List Pt} {i : Nat} {q : Pt} (h : l[i]? = some q) : (firstP f l l.length)[i]? = some (f q.x q.y) := by
  simp [firstP, h]

def zbr : List SV := .val .nilIface :: zero24
set_option maxRecDepth 100000 in
theorem c_atz (x y : Int) : CallsG Tryz.prog 45 [.ptr zbr, i64 x, i64 y] [] (.agg (pixE zeroP)) [] := by
  refine calls_to tok mix Tryz.func45 rfl rfl rfl ?_
  exact .refl
theorem row0_at {x y : Int} {m i : Nat} {q : Pix} (h : (rowP (fun _ _ => zeroP) x y m)[i]? = some q) : q = zeroP := by
  unfold rowP at h
  rw [List.getElem?_map] at h
  cases hr : (List.range m)[i]? with
  | none => simp [hr] at h
  | some k =>
    simp [hr] at h
    rw [← h]; unfold rowAt; split <;> rfl

end Go.Gs
/- Paints among the arguments, laid open. -/
namespace Go.Gs
open Go.Proofs Go.RowKit

def shPix : Sh := .st (.cons shB (.cons shB (.cons shB (.cons shB .nil))))
def toPix (y : shPix.T) : Pix := ⟨y.1, y.2.1, y.2.2.1, y.2.2.2.1⟩
theorem pix_le (y : shPix.T) : LEds (shPix.enc y) (pixE (toPix y)) := LEds.refl
theorem pix_wf {y : shPix.T} (h : shPix.wf y) : P8 (toPix y) := ⟨wf8 h.1, wf8 h.2.1, wf8 h.2.2.1, wf8 h.2.2.2.1⟩
def shPt : Sh := .st (.cons shI (.cons shI .nil))
def toPt (y : shPt.T) : Pt := ⟨y.1, y.2.1⟩
def shStop : Sh := .st (.cons shI (.cons shPix .nil))
def toStop (y : shStop.T) : Stop := ⟨y.1, toPix y.2.1⟩
theorem stop_le (y : shStop.T) : LEds (shStop.enc y) (stopE (toStop y)) := LEds.refl
def shImg : Sh := .st (.cons shI (.cons shI (.cons (.sl shPix) .nil)))
def toImg (y : shImg.T) : Img := ⟨y.1, y.2.1, List.map toPix y.2.2.1⟩
theorem img_le (y : shImg.T) : LEds (shImg.enc y) (imgE (toImg y)) := .cons .refl (.cons .refl (.cons (LEd.sl toPix fun x _ => pix_le x) .nil))
theorem img_wf {y : shImg.T} (h : shImg.wf y) : ∀ q ∈ (toImg y).px, P8 q := fun q hq => by
  obtain ⟨x, hx, rfl⟩ := List.mem_map.1 hq
  exact pix_wf (h.2.2.1 x hx)
def shPnt : Sh := .st (.cons shI (.cons shPix (.cons shPt (.cons shPt (.cons shI (.cons (.sl shStop) (.cons shI (.cons shImg (.cons shI (.cons shAf .nil))))))))))
def toPnt (y : shPnt.T) : Pnt := ⟨y.1, toPix y.2.1, toPt y.2.2.1, toPt y.2.2.2.1, y.2.2.2.2.1, List.map toStop y.2.2.2.2.2.1, y.2.2.2.2.2.2.1, toImg y.2.2.2.2.2.2.2.1, y.2.2.2.2.2.2.2.2.1, toAF y.2.2.2.2.2.2.2.2.2.1⟩
theorem pnt_le (y : shPnt.T) (h : shPnt.wf y) : LEds (shPnt.enc y) (pntE (toPnt y)) :=
  .cons .refl (.cons .refl (.cons .refl (.cons .refl (.cons .refl (.cons .refl (.cons .refl (.cons .refl (.cons .refl (.cons .refl (.cons (LEd.sl toStop fun x _ => stop_le x) (.cons .refl
    (.cons .refl (.cons .refl (.cons (LEd.sl toPix fun x _ => pix_le x) (.cons .refl (by
    have := LEds.append (af_le _ h.2.2.2.2.2.2.2.2.2.1) .nil
    rwa [List.append_nil, List.append_nil] at this))))))))))))))))
theorem pnt_wf {y : shPnt.T} (h : shPnt.wf y) : P8p (toPnt y) := ⟨pix_wf h.2.1, fun s hs => by
    obtain ⟨x, hx, rfl⟩ := List.mem_map.1 hs
    exact pix_wf (h.2.2.2.2.2.1 x hx).2.1, img_wf h.2.2.2.2.2.2.2.1⟩

section
variable {H : Type} {enc : TypeId × Value → H} {W : World} {b0 : Nat} {held : Bool}
set_option maxRecDepth 100000 in
theorem open_paint {v : Value} {d : DataW H} {p : List MemPlace} (hv : Value.okWide Tryz.prog W .any b0 45 v) (h : DataW.Trod enc Tryz.prog W 0 (fun _ => true) held 45 v d p) :
    ∃ q : Pnt, (P8p q ∧ q.im.px.length ≤ 9223372036854775807) ∧ ∀ (S Pm : Nat → Prop) (ρ : Names), (∀ b, ¬ S b) → G S Pm ρ W (.agg (pntE q)) v := by
  obtain ⟨y, hy, g⟩ := open_argL shPnt (by kernel_rfl) (by kernel_rfl) hv h
  have g := g _ (pnt_le y hy)
  refine ⟨toPnt y, ⟨pnt_wf hy, ?_⟩, g⟩
  obtain ⟨vs, _, hvs⟩ := (g (fun _ => False) (fun _ => False) (fun _ => none) (fun _ h => h)).agg_inv
  have hl : 14 < vs.length := by rw [hvs.1]; exact (by decide : 14 < 40)
  exact (sl_val (hvs.2 14 (.sl pixE (toPnt y).im.px) _ rfl (List.getElem?_eq_getElem hl))).1
set_option maxRecDepth 100000 in
theorem open_color {v : Value} {d : DataW H} {p : List MemPlace} (hv : Value.okWide Tryz.prog W .any b0 31 v) (h : DataW.Trod enc Tryz.prog W 0 (fun _ => true) held 31 v d p) :
    ∃ c : Pix, P8 c ∧ ∀ (S Pm : Nat → Prop) (ρ : Names), (∀ b, ¬ S b) → G S Pm ρ W (.agg (pixE c)) v := by
  obtain ⟨y, hy, g⟩ := open_argL shPix (by kernel_rfl) (by kernel_rfl) hv h
  exact ⟨toPix y, pix_wf hy, g _ (pix_le y)⟩
def shQ8 : Sh := .ar (.cons (.int .i8) (.cons (.int .i8) .nil))
def toQ8 (y : shQ8.T) : Pt := ⟨y.1, y.2.1⟩
end

end Go.Gs
/- Bitmaps, masks, jobs among the arguments, laid open. -/
namespace Go.Gs
open Go.Proofs Go.RowKit

def shRc : Sh := .st (.cons shI (.cons shI (.cons shI (.cons shI .nil))))
def toRc (y : shRc.T) : Rc := ⟨y.1, y.2.1, y.2.2.1, y.2.2.2.1⟩
def R64c (r : Rc) : Prop := R64 r.x0 ∧ R64 r.y0 ∧ R64 r.x1 ∧ R64 r.y1
theorem rc_wf {y : shRc.T} (h : shRc.wf y) : R64c (toRc y) := ⟨wfi h.1, wfi h.2.1, wfi h.2.2.1, wfi h.2.2.2.1⟩
def shBm : Sh := .st (.cons shRc (.cons (.sl shPix) .nil))
def toBm (y : shBm.T) : Bm := ⟨toRc y.1, List.map toPix y.2.1⟩
theorem bm_le (y : shBm.T) : LEds (shBm.enc y) (bmE (toBm y)) := .cons .refl (.cons .refl (.cons .refl (.cons .refl (.cons (LEd.sl toPix fun x _ => pix_le x) .nil))))
def BmW (s : Bm) : Prop := R64c s.b ∧ B8 s
theorem bm_wf {y : shBm.T} (h : shBm.wf y) : BmW (toBm y) := ⟨rc_wf h.1, fun q hq => by
  obtain ⟨x, hx, rfl⟩ := List.mem_map.1 hq
  exact pix_wf (h.2.1 x hx)⟩
def shMk : Sh := .st (.cons shRc (.cons (.sl shB) .nil))
def toU8 (y : shB.T) : Int := y
def toMk (y : shMk.T) : Mk := ⟨toRc y.1, List.map toU8 y.2.1⟩
theorem mk_le (y : shMk.T) : LEds (shMk.enc y) (mkE (toMk y)) := .cons .refl (.cons .refl (.cons .refl (.cons .refl (.cons (LEd.sl toU8 fun _ _ => LEds.refl) .nil))))
def MkW (m : Mk) : Prop := R64c m.b ∧ ∀ c ∈ m.cv, R8 c
theorem mk_wf {y : shMk.T} (h : shMk.wf y) : MkW (toMk y) := ⟨rc_wf h.1, fun q hq => by
  obtain ⟨x, hx, rfl⟩ := List.mem_map.1 hq
  exact wf8 (h.2.1 x hx)⟩

structure Job where
  d : Bm
  m : Mk
  p : Pnt
  t : AF
  mode : Int
def jobE (k : Job) : List SV := bmE k.d ++ (mkE k.m ++ (pntE k.p ++ (afE k.t ++ [i64 k.mode])))
def shJob : Sh := .st (.cons shBm (.cons shMk (.cons shPnt (.cons shAf (.cons shI .nil)))))
def toJob (y : shJob.T) : Job := ⟨toBm y.1, toMk y.2.1, toPnt y.2.2.1, toAF y.2.2.2.1, y.2.2.2.2.1⟩
def JobW (k : Job) : Prop := BmW k.d ∧ MkW k.m ∧ P8p k.p ∧ R64 k.mode
theorem job_le (y : shJob.T) (h : shJob.wf y) : LEds (shJob.enc y) (jobE (toJob y)) :=
  LEds.append (bm_le _) (LEds.append (mk_le _) (LEds.append (pnt_le _ h.2.2.1) (LEds.append (af_le _ h.2.2.2.1) LEds.refl)))
theorem job_wf {y : shJob.T} (h : shJob.wf y) : JobW (toJob y) := ⟨bm_wf h.1, mk_wf h.2.1, pnt_wf h.2.2.1, wfi h.2.2.2.2.1⟩

section
variable {H : Type} {enc : TypeId × Value → H} {W : World} {b0 : Nat} {held : Bool}
set_option maxRecDepth 100000 in
theorem open_rect3 {v : Value} {d : DataW H} {p : List MemPlace} (hv : Value.okWide Tryz.prog W .any b0 23 v) (h : DataW.Trod enc Tryz.prog W 0 (fun _ => true) held 23 v d p) :
    ∃ r : Rc, R64c r ∧ ∀ (S Pm : Nat → Prop) (ρ : Names), (∀ b, ¬ S b) → G S Pm ρ W (.agg (rcE r)) v := by
  obtain ⟨y, hy, g⟩ := open_argL shRc (by kernel_rfl) (by kernel_rfl) hv h
  exact ⟨toRc y, rc_wf hy, g _ LEds.refl⟩
set_option maxRecDepth 100000 in
theorem open_bitmap {v : Value} {d : DataW H} {p : List MemPlace} (hv : Value.okWide Tryz.prog W .any b0 26 v) (h : DataW.Trod enc Tryz.prog W 0 (fun _ => true) held 26 v d p) :
    ∃ s : Bm, BmW s ∧ ∀ (S Pm : Nat → Prop) (ρ : Names), (∀ b, ¬ S b) → G S Pm ρ W (.agg (bmE s)) v := by
  obtain ⟨y, hy, g⟩ := open_argL shBm (by kernel_rfl) (by kernel_rfl) hv h
  exact ⟨toBm y, bm_wf hy, g _ (bm_le y)⟩
set_option maxRecDepth 100000 in
theorem open_mask {v : Value} {d : DataW H} {p : List MemPlace} (hv : Value.okWide Tryz.prog W .any b0 29 v) (h : DataW.Trod enc Tryz.prog W 0 (fun _ => true) held 29 v d p) :
    ∃ s : Mk, MkW s ∧ ∀ (S Pm : Nat → Prop) (ρ : Names), (∀ b, ¬ S b) → G S Pm ρ W (.agg (mkE s)) v := by
  obtain ⟨y, hy, g⟩ := open_argL shMk (by kernel_rfl) (by kernel_rfl) hv h
  exact ⟨toMk y, mk_wf hy, g _ (mk_le y)⟩
set_option maxRecDepth 100000 in
theorem open_image {v : Value} {d : DataW H} {p : List MemPlace} (hv : Value.okWide Tryz.prog W .any b0 36 v) (h : DataW.Trod enc Tryz.prog W 0 (fun _ => true) held 36 v d p) :
    ∃ m : Img, (R64 m.w ∧ R64 m.h ∧ ∀ q ∈ m.px, P8 q) ∧ ∀ (S Pm : Nat → Prop) (ρ : Names), (∀ b, ¬ S b) → G S Pm ρ W (.agg (imgE m)) v := by
  obtain ⟨y, hy, g⟩ := open_argL shImg (by kernel_rfl) (by kernel_rfl) hv h
  exact ⟨toImg y, ⟨wfi hy.1, wfi hy.2.1, img_wf hy⟩, g _ (img_le y)⟩
set_option maxRecDepth 100000 in
theorem open_job {v : Value} {d : DataW H} {p : List MemPlace} (hv : Value.okWide Tryz.prog W .any b0 47 v) (h : DataW.Trod enc Tryz.prog W 0 (fun _ => true) held 47 v d p) :
    ∃ k : Job, (JobW k ∧ k.p.im.px.length ≤ 9223372036854775807) ∧ ∀ (S Pm : Nat → Prop) (ρ : Names), (∀ b, ¬ S b) → G S Pm ρ W (.agg (jobE k)) v := by
  obtain ⟨y, hy, g⟩ := open_argL shJob (by kernel_rfl) (by kernel_rfl) hv h
  have g := g _ (job_le y hy)
  refine ⟨toJob y, ⟨job_wf hy, ?_⟩, g⟩
  obtain ⟨vs, _, hvs⟩ := (g (fun _ => False) (fun _ => False) (fun _ => none) (fun _ h => h)).agg_inv
  have hl : 24 < vs.length := by rw [hvs.1]; exact (by decide : 24 < 75)
  exact (sl_val (hvs.2 24 (.sl pixE (toJob y).p.im.px) _ rfl (List.getElem?_eq_getElem hl))).1
def shBm2 : Sh := .ar (.cons shBm (.cons shBm .nil))
set_option maxRecDepth 100000 in
theorem open_bitmaps2 {v : Value} {d : DataW H} {p : List MemPlace} (hv : Value.okWide Tryz.prog W .any b0 72 v) (h : DataW.Trod enc Tryz.prog W 0 (fun _ => true) held 72 v d p) :
    ∃ s : Bm × Bm, (BmW s.1 ∧ BmW s.2) ∧ ∀ (S Pm : Nat → Prop) (ρ : Names), (∀ b, ¬ S b) → G S Pm ρ W (.agg (bmE s.1 ++ bmE s.2)) v := by
  obtain ⟨y, hy, g⟩ := open_argL shBm2 (by kernel_rfl) (by kernel_rfl) hv h
  exact ⟨(toBm y.1, toBm y.2.1), ⟨bm_wf hy.1, bm_wf hy.2.1⟩, g _ (LEds.append (bm_le _) (LEds.append (bm_le _) .nil))⟩
def shI2 : Sh := .ar (.cons shI (.cons shI .nil))
set_option maxRecDepth 100000 in
theorem open_int2 {v : Value} {d : DataW H} {p : List MemPlace} (hv : Value.okWide Tryz.prog W .any b0 69 v) (h : DataW.Trod enc Tryz.prog W 0 (fun _ => true) held 69 v d p) :
    ∃ s : Int × Int, (R64 s.1 ∧ R64 s.2) ∧ ∀ (S Pm : Nat → Prop) (ρ : Names), (∀ b, ¬ S b) → G S Pm ρ W (.agg [i64 s.1, i64 s.2]) v := by
  obtain ⟨y, hy, g⟩ := open_argL shI2 (by kernel_rfl) (by kernel_rfl) hv h
  exact ⟨(y.1, y.2.1), ⟨wfi hy.1, wfi hy.2.1⟩, g _ LEds.refl⟩
end

end Go.Gs
/- What the laws of fills share. -/
namespace Go.Gs
open Go.Proofs

set_option maxRecDepth 100000 in
theorem c_light26 (t : AF) : CallsG Tryz.prog 38 [.agg (afE t)] [] (pr (t.le 12)) [] := by
  refine calls_to tok mix Tryz.func38 rfl rfl rfl ?_
  refine ⟨BR, brE, coefs t, rfl, Ob.mk ⟨rfl, by decide, by decide, by decide, fun x _ => ⟨rfl, rfl, rfl⟩⟩ ?_⟩
  refine ⟨Nat, fun i => ⟨[(3, .own 0), (4, i64 i)], [(0, .arr 41 brE 4 (coefs t))], 1, 42, 0⟩, fun i => i ≤ 6 ∧ ∀ j, j < i → (t.nth j).len ≤ 12, fun i => 6 - i, 0, ?_, ?_, ?_⟩
  · exact ⟨by decide, fun j hj => by omega⟩
  · exact sub_of [(0, some 1)] rfl rfl rfl ⟨rfl, rfl, trivial⟩ ⟨rfl, trivial⟩
  rintro i ⟨h1, h2⟩
  intro hl
  have hl6 : (coefs t).length = 6 := rfl
  refine Br.mk (fun h3 => ?_) (fun h3 => ?_)
  · refine Ob.mk ⟨by omega, by omega⟩ ?_
    refine Ob.mk ⟨by omega, by omega⟩ ?_
    intro x hx
    have hx : (coefs t)[i]? = some x := hx
    have hx := coefs_at hx
    subst hx
    have hle := le_len (t.nth i)
    intro hl1
    refine Br.mk (fun h4 => LE_false (fun h => by have := coefs_le h i; omega)) (fun h4 => ?_)
    refine Ob.mk ⟨by omega, by omega⟩ ?_
    refine Ob.mk ⟨by omega, by omega⟩ ?_
    intro y hy
    have hy : (coefs t)[i]? = some y := hy
    have hy := coefs_at hy
    subst hy
    intro hl2
    refine Br.mk (fun h5 => LE_false (fun h => by have := coefs_le h i; omega)) (fun h5 => ?_)
    refine Ar.fit (by omega) ?_
    refine ⟨i + 1, ⟨by omega, fun j hj => ?_⟩, sub_of [(0, some 0)] rfl rfl rfl ⟨rfl, rfl, trivial⟩ ⟨rfl, trivial⟩, by dsimp only; omega⟩
    by_cases e : j = i
    · subst e; exact hle.2 ⟨by omega, by omega⟩
    · exact h2 j (by omega)
  · have : i = 6 := by omega
    subst this
    exact LE_true ⟨h2 0 (by decide), h2 1 (by decide), h2 2 (by decide), h2 3 (by decide), h2 4 (by decide), h2 5 (by decide)⟩
def lightJ (k : Job) : Prop := (k.d.px.length : Int) ≤ 60 ∧ (k.m.cv.length : Int) ≤ 200 ∧ k.t.le 12 ∧ k.p.t.le 12 ∧ (k.p.st.length : Int) ≤ 40 ∧ (k.p.im.px.length : Int) ≤ 200
instance instGA1 (k : Job) : Decidable (lightJ k) := inferInstanceAs (Decidable (_ ∧ _))
set_option maxRecDepth 100000 in
set_option maxHeartbeats 4000000 in
theorem c_lightJ (k : Job) : CallsG Tryz.prog 12 [.agg (jobE k)] [] (pr (lightJ k)) [] := by
  refine calls_to tok mix Tryz.func12 rfl rfl rfl ?_
  intro hl1
  refine Br.mk (fun h1 => ?_) (fun h1 => LE_false (fun h => h1 h.1))
  intro hl2
  refine Br.mk (fun h2 => ?_) (fun h2 => LE_false (fun h => h2 h.2.1))
  refine CallV.to _ (c_light26 k.t) rfl ?_
  refine Br.mk (fun h3 => ?_) (fun h3 => LE_false (fun h => h3 h.2.2.1))
  refine CallV.to _ (c_light26 k.p.t) rfl ?_
  refine Br.mk (fun h4 => ?_) (fun h4 => LE_false (fun h => h4 h.2.2.2.1))
  intro hl3
  refine Br.mk (fun h5 => ?_) (fun h5 => LE_false (fun h => h5 h.2.2.2.2.1))
  intro hl4
  exact LE_pr ⟨fun h => ⟨h1, h2, h3, h4, h5, h⟩, fun h => h.2.2.2.2.2⟩
theorem light_few {k : Job} (h : lightJ k) : fewP k.p := ⟨h.2.2.2.2.1, by have := h.2.2.2.2.2; omega, h.2.2.2.1⟩

theorem lookP_at {p : Pnt} {t : AF} (h : nbErr p t = 0) (x y : Int) : lookP p t x y = atP p t x y := by unfold lookP; rw [if_pos h]
theorem lookP_no {p : Pnt} {t : AF} (h : ¬ nbErr p t = 0) (x y : Int) : lookP p t x y = zeroP := by unfold lookP; rw [if_neg h]
/-- The brush of a paint, or none. -/
theorem c_lbrush (p : Pnt) (t : AF) (hf : fewP p) (ht : t.le 12) (h8 : P8p p) :
    ∃ B : SV, (B = nilP ∨ ∃ cs, B = .dptr cs) ∧ CallsG Tryz.prog 15 [.agg (pntE p), .agg (afE t)] [] B [] ∧
      ∀ x y : Int, CallsG Tryz.prog 45 [B, i64 x, i64 y] [] (.agg (pixE (lookP p t x y))) [] := by
  by_cases h : nbErr p t = 0
  · obtain ⟨cs, n, a⟩ := c_brush p t hf ht h8 h
    refine ⟨.dptr cs, .inr ⟨cs, rfl⟩, ?_, fun x y => lookP_at h x y ▸ a x y⟩
    refine calls_to tok mix Tryz.func15 rfl rfl rfl ?_
    refine CallV.to _ n rfl ?_
    refine Br.mk (fun k => absurd rfl k) (fun _ => ?_)
    exact .refl
  · refine ⟨nilP, .inl rfl, ?_, fun x y => (lookP_no h x y).symm ▸ c_atnil x y⟩
    refine calls_to tok mix Tryz.func15 rfl rfl rfl ?_
    refine CallV.to _ (c_brushbad p t hf ht h) rfl ?_
    refine Br.mk (fun _ => ?_) (fun k => absurd h k)
    exact .refl
theorem p_withX {B : SV} (hB : B = nilP ∨ ∃ cs, B = .dptr cs) (f : Int → Int → Pix) (hat : ∀ x y : Int, CallsG Tryz.prog 45 [B, i64 x, i64 y] [] (.agg (pixE (f x y))) []) (f8 : ∀ x y, P8 (f x y))
    (d : Bm) (m : Mk) (mode : Int) (d8 : B8 d) (m8 : ∀ c ∈ m.cv, R8 c) :
    CallsG Tryz.prog 14 [.agg (bmE d), .agg (mkE m), B, i64 mode] [] (bmR (withB f d m mode)) [(0, .arr 57 pixE 4 (withB f d m mode).1.px)] := by
  rcases hB with rfl | ⟨cs, rfl⟩
  · exact p_withNil f hat f8 d m mode d8 m8
  · exact p_withD cs f hat f8 d m mode d8 m8
theorem p_brushX {B : SV} (hB : B = nilP ∨ ∃ cs, B = .dptr cs) (f : Int → Int → Pix) (hat : ∀ x y : Int, CallsG Tryz.prog 45 [B, i64 x, i64 y] [] (.agg (pixE (f x y))) []) (r : Rc) :
    CallsG Tryz.prog 21 [.agg (rcE r), B] [] (bmR (brushB f r)) [(0, .arr 57 pixE 4 (brushB f r).1.px)] := by
  rcases hB with rfl | ⟨cs, rfl⟩
  · exact p_brushNil f hat r
  · exact p_brushD cs f hat r
def colB (d : Bm) (m : Mk) (c : Pix) : Bm × Int := withB (lookP (solidP c) zeroAF) d m 1
set_option maxRecDepth 100000 in
set_option maxHeartbeats 4000000 in
theorem p_withColor (d : Bm) (m : Mk) (c : Pix) (d8 : B8 d) (m8 : ∀ c ∈ m.cv, R8 c) (h8 : P8 c) :
    CallsG Tryz.prog 18 [.agg (bmE d), .agg (mkE m), .agg (pixE c)] [] (bmR (colB d m c)) [(0, .arr 57 pixE 4 (colB d m c).1.px)] := by
  obtain ⟨cs, n, a⟩ := c_brush (solidP c) zeroAF (solid_few _) (zeroAF_le _) (solid_8 h8) (solid_nb _ _)
  have key := p_withD cs (lookP (solidP c) zeroAF) (fun x y => lookP_at (solid_nb c zeroAF) x y ▸ a x y) (fun x y => lookP_8 _ (solid_8 h8) x y) d m 1 d8 m8
  change CallsG _ _ _ _ (bmR (colB d m c)) [(0, .arr _ pixE 4 (colB d m c).1.px)] at key
  generalize colB d m c = q at *
  refine calls_own tok mix Tryz.func18 rfl rfl rfl ?_
  refine CallV.to _ (n.args (.cons (LE_solidP c) (.cons LE_zero24 .nil))) rfl ?_
  refine CallV.fresh _ _ key rfl (fun _ _ => rfl) (.inr (fun _ _ => rfl)) ?_
  exact ⟨some 4, take_tup (.cons (take_agg (.cons (take_int rfl) (.cons (take_int rfl) (.cons (take_int rfl) (.cons (take_int rfl) (.cons (.own _ rfl) .nil)))))) (.cons (take_int rfl) .nil)), rfl, fun _ _ => rfl⟩
set_option maxRecDepth 100000 in
set_option maxHeartbeats 4000000 in
theorem r_withColor (d : Bm) (m : Mk) (c : Pix) (d8 : B8 d) (m8 : ∀ c ∈ m.cv, R8 c) (h8 : P8 c) :
    CallsG Tryz.prog 19 [.agg (bmE d), .agg (mkE m), .agg (pixE c)] [] (bmR (colB d m c)) [(0, .arr 57 pixE 4 (colB d m c).1.px)] := by
  have key := r_withBrush d m (solidP c) zeroAF 1 d8 m8 (zeroAF_le _) (zeroAF_le _) (solid_8 h8)
  change CallsG _ _ _ _ (bmR (colB d m c)) [(0, .arr _ pixE 4 (colB d m c).1.px)] at key
  generalize colB d m c = q at *
  refine calls_own tok mix Tryz.func19 rfl rfl rfl ?_
  refine CallV.fresh _ _ (key.args (.cons .refl (.cons .refl (.cons (LE_solidP c) (.cons LE_zero24 (.cons .refl .nil)))))) rfl (fun _ _ => rfl) (.inr (fun _ _ => rfl)) ?_
  exact ⟨some 4, take_tup (.cons (take_agg (.cons (take_int rfl) (.cons (take_int rfl) (.cons (take_int rfl) (.cons (take_int rfl) (.cons (.own _ rfl) .nil)))))) (.cons (take_int rfl) .nil)), rfl, fun _ _ => rfl⟩

def exB : Rc := ⟨0, 0, 2, 1⟩
def exW : Pix := ⟨255, 255, 255, 255⟩
def exD : Bm := ⟨exB, [⟨0, 0, 0, 255⟩, ⟨9, 0, 0, 9⟩]⟩
def exM : Mk := ⟨⟨0, 0, 1, 1⟩, [128]⟩
def exA : Mk := ⟨exB, [255, 255]⟩
theorem ex1 : colB exD exM exW = (⟨exB, [⟨128, 128, 128, 255⟩, ⟨9, 0, 0, 9⟩]⟩, 0) := by decide +kernel
theorem ex2 : colB exD exA exW = (⟨exB, [exW, exW]⟩, 0) := by decide +kernel
theorem ex3 : brushB (lookP (solidP exW) idA) ⟨0, 0, 1, 1⟩ = (⟨⟨0, 0, 1, 1⟩, [exW]⟩, 0) := by decide +kernel
theorem ex4 : withB (fun _ _ => zeroP) exD exM 0 = (zeroB, 2) := by decide +kernel
theorem ex5 : withB (fun _ _ => zeroP) ⟨exB, []⟩ ⟨exB, []⟩ 0 = (zeroB, 15) := by decide +kernel
theorem ex6 : tiledB exD ⟨1, 1, [exW]⟩ 3 (-4) = (⟨exB, [exW, exW]⟩, 0) := by decide +kernel
theorem ex7 : copyB exD exD ⟨1, 0, 2, 1⟩ 0 0 = (⟨exB, [⟨9, 0, 0, 9⟩, ⟨9, 0, 0, 9⟩]⟩, 0) := by decide +kernel

end Go.Gs
/- The examples of the laws of fills. -/
namespace Go.Gs
open Go.Proofs

theorem exW_8 : P8 exW := by show P8 ⟨255, 255, 255, 255⟩; exact ⟨⟨by decide, by decide⟩, ⟨by decide, by decide⟩, ⟨by decide, by decide⟩, ⟨by decide, by decide⟩⟩
theorem exD_8 : B8 exD := fun p h => by
  have h : p ∈ [(⟨0, 0, 0, 255⟩ : Pix), ⟨9, 0, 0, 9⟩] := h
  simp only [List.mem_cons, List.not_mem_nil, or_false] at h
  rcases h with rfl | rfl <;> exact ⟨⟨by decide, by decide⟩, ⟨by decide, by decide⟩, ⟨by decide, by decide⟩, ⟨by decide, by decide⟩⟩
theorem exM_8 : ∀ c ∈ exM.cv, R8 c := fun c h => by
  have h : c ∈ [(128 : Int)] := h
  simp only [List.mem_cons, List.not_mem_nil, or_false] at h
  subst h; decide
theorem exA_8 : ∀ c ∈ exA.cv, R8 c := fun c h => by
  have h : c ∈ [(255 : Int), 255] := h
  simp only [List.mem_cons, List.not_mem_nil, or_false] at h
  rcases h with rfl | rfl <;> decide
theorem nil_8 (b : Rc) : B8 ⟨b, []⟩ := fun _ h => by cases h
theorem LE_nilD (b : Rc) : LE (.agg [i64 b.x0, i64 b.y0, i64 b.x1, i64 b.y1, .val (.slice none 0 0)]) (.agg (bmE ⟨b, []⟩)) := LE_agg (.cons .refl (.cons .refl (.cons .refl (.cons .refl (.cons LE_nil0 .nil)))))
theorem LE_nilK (b : Rc) : LE (.agg [i64 b.x0, i64 b.y0, i64 b.x1, i64 b.y1, .val (.slice none 0 0)]) (.agg (mkE ⟨b, []⟩)) := LE_agg (.cons .refl (.cons .refl (.cons .refl (.cons .refl (.cons LE_nil0 .nil)))))
set_option maxRecDepth 100000 in
set_option maxHeartbeats 8000000 in
theorem c_example35 : CallsG Tryz.prog 13 [] [] (bl true) [] := by
  have n1 := p_withColor exD exM exW exD_8 exM_8 exW_8
  rw [ex1] at n1
  have n2 := p_withColor exD exA exW exD_8 exA_8 exW_8
  rw [ex2] at n2
  have n4 := p_withNil (fun _ _ => zeroP) c_atnil (fun _ _ => zero_8) exD exM 0 exD_8 exM_8
  rw [ex4] at n4
  have n5 := p_withNil (fun _ _ => zeroP) c_atnil (fun _ _ => zero_8) ⟨exB, []⟩ ⟨exB, []⟩ 0 (nil_8 _) (fun _ h => by cases h)
  rw [ex5] at n5
  have n6 := p_tiled exD ⟨1, 1, [exW]⟩ 3 (-4) exD_8 (fun q h => by cases h with | head => exact exW_8 | tail _ h => cases h) (by decide) (by decide)
  rw [ex6] at n6
  have n7 := p_copy exD exD ⟨1, 0, 2, 1⟩ 0 0 (by decide)
  rw [ex7] at n7
  obtain ⟨cs, b1, a1⟩ := c_brush (solidP exW) idA (solid_few _) idA_le12 (solid_8 exW_8) (solid_nb _ _)
  have n3 := p_brushD cs (lookP (solidP exW) idA) (fun x y => lookP_at (solid_nb exW idA) x y ▸ a1 x y) ⟨0, 0, 1, 1⟩
  rw [ex3] at n3
  have nb : CallsG Tryz.prog 15 [.agg (pntE (solidP exW)), .agg (afE idA)] [] (.dptr cs) [] := by
    refine calls_to tok mix Tryz.func15 rfl rfl rfl ?_
    refine CallV.to _ b1 rfl ?_
    refine Br.mk (fun k => absurd rfl k) (fun _ => ?_)
    exact .refl
  refine calls_to tok mix Tryz.func13 rfl rfl rfl ?_
  refine ⟨Pix, pixE, [⟨0, 0, 0, 255⟩, ⟨9, 0, 0, 9⟩], rfl, Ob.mk ⟨rfl, by decide, by decide, by decide, fun x _ => ⟨rfl, rfl, rfl⟩⟩ ?_⟩
  refine ⟨Int, u8E, [128], rfl, Ob.mk ⟨rfl, by decide, by decide, by decide, fun x _ => ⟨rfl, rfl, rfl⟩⟩ ?_⟩
  refine ⟨Int, u8E, [255, 255], rfl, Ob.mk ⟨rfl, by decide, by decide, by decide, fun x _ => ⟨rfl, rfl, rfl⟩⟩ ?_⟩
  refine CallV.fresh _ _ n1 rfl (fun _ _ => rfl) (.inr (fun _ _ => rfl)) ?_
  refine CallV.fresh _ _ n2 rfl (fun _ _ => rfl) (.inr (fun _ _ => rfl)) ?_
  refine Dr.dyn (Ob.mk (by decide +kernel) ?_)
  refine CallV.to _ r12_identity rfl ?_
  refine CallV.to _ (nb.args (.cons (LE_solidP exW) (.cons .refl .nil))) rfl ?_
  refine CallV.fresh _ _ n3 rfl (fun _ _ => rfl) (.inr (fun _ _ => rfl)) ?_
  refine Ob.mk (by kernel_rfl) ?_
  refine CallV.fresh _ _ n4 rfl (fun _ _ => rfl) (.inr (fun _ _ => rfl)) ?_
  refine CallV.fresh _ _ (n5.args (.cons (LE_nilD exB) (.cons (LE_nilK exB) (.cons .refl (.cons .refl .nil))))) rfl (fun _ _ => rfl) (.inr (fun _ _ => rfl)) ?_
  refine ⟨Pix, pixE, [exW], rfl, Ob.mk ⟨rfl, by decide, by decide, by decide, fun x _ => ⟨rfl, rfl, rfl⟩⟩ ?_⟩
  refine CallV.fresh _ _ n6 rfl (fun _ _ => rfl) (.inr (fun _ _ => rfl)) ?_
  refine CallV.fresh _ _ n7 rfl (fun _ _ => rfl) (.inr (fun _ _ => rfl)) ?_
  refine Dr.dyn (Ob.mk (by decide +kernel) ?_)
  refine Br.mk (fun h => absurd rfl h) (fun _ => ?_)
  intro _
  refine Br.mk (fun h => absurd rfl h) (fun _ => ?_)
  refine Ob.mk (by decide) ?_
  refine Ob.mk (by decide) ?_
  intro z hz
  obtain rfl : exW = z := Option.some.inj hz
  refine Br.mk (fun h => absurd (by decide) h) (fun _ => ?_)
  refine Br.mk (fun h => absurd rfl h) (fun _ => ?_)
  intro _
  refine Br.mk (fun h => absurd rfl h) (fun _ => ?_)
  refine Ob.mk (by decide) ?_
  refine Ob.mk (by decide) ?_
  intro z hz
  obtain rfl : (⟨9, 0, 0, 9⟩ : Pix) = z := Option.some.inj hz
  refine Ob.mk (by decide) ?_
  refine Ob.mk (by decide) ?_
  intro z hz
  obtain rfl : (⟨9, 0, 0, 9⟩ : Pix) = z := Option.some.inj hz
  refine Br.mk (fun h => absurd (by decide) h) (fun _ => ?_)
  refine Ob.mk (by decide) ?_
  refine Ob.mk (by decide) ?_
  intro z hz
  obtain rfl : (⟨9, 0, 0, 9⟩ : Pix) = z := Option.some.inj hz
  refine Ob.mk (by decide) ?_
  refine Ob.mk (by decide) ?_
  intro z hz
  obtain rfl : (⟨9, 0, 0, 9⟩ : Pix) = z := Option.some.inj hz
  refine Ob.mk (by kernel_rfl) ?_
  refine Br.mk (fun h => absurd (by decide) h) (fun _ => ?_)
  refine Dr.dyn (Ob.mk (by decide +kernel) ?_)
  intro _
  refine Br.mk (fun _ => ?_) (fun h => absurd rfl h)
  refine Ob.mk (by decide) ?_
  refine Ob.mk (by decide) ?_
  intro z hz
  obtain rfl : (⟨128, 128, 128, 255⟩ : Pix) = z := Option.some.inj hz
  refine Br.mk (fun _ => ?_) (fun h => absurd (by decide) h)
  refine Ob.mk (by decide) ?_
  refine Ob.mk (by decide) ?_
  intro z hz
  obtain rfl : (⟨9, 0, 0, 9⟩ : Pix) = z := Option.some.inj hz
  refine Ob.mk (by decide) ?_
  refine Ob.mk (by decide) ?_
  intro z hz
  obtain rfl : (⟨9, 0, 0, 9⟩ : Pix) = z := Option.some.inj hz
  refine Br.mk (fun _ => ?_) (fun h => absurd (by decide) h)
  refine Br.mk (fun _ => ?_) (fun h => absurd rfl h)
  intro _
  refine Br.mk (fun _ => ?_) (fun h => absurd rfl h)
  refine Ob.mk (by decide) ?_
  refine Ob.mk (by decide) ?_
  intro z hz
  obtain rfl : exW = z := Option.some.inj hz
  refine Br.mk (fun _ => ?_) (fun h => absurd (by decide) h)
  refine Br.mk (fun _ => ?_) (fun h => absurd rfl h)
  intro _
  refine Br.mk (fun _ => ?_) (fun h => absurd rfl h)
  refine Ob.mk (by decide) ?_
  refine Ob.mk (by decide) ?_
  intro z hz
  obtain rfl : exW = z := Option.some.inj hz
  refine Br.mk (fun _ => ?_) (fun h => absurd (by decide) h)
  refine Br.mk (fun _ => ?_) (fun h => absurd rfl h)
  refine Br.mk (fun _ => ?_) (fun h => absurd rfl h)
  refine Ob.mk (by kernel_rfl) ?_
  exact LE_yes rfl

end Go.Gs
/- The laws WithColor, BrushBitmap, BlendOver of fills. -/
namespace Go.Gs
open Go.Proofs

set_option maxRecDepth 100000 in
set_option maxHeartbeats 8000000 in
theorem c_lawColor (d : Bm) (m : Mk) (c : Pix) (d8 : BmW d) (m8 : MkW m) (h8 : P8 c) : CallsG Tryz.prog 4 [.agg (bmE d), .agg (mkE m), .agg (pixE c)] [] (bl true) [] := by
  have n1 := p_withColor d m c d8.2 m8.2 h8
  have n2 := r_withColor d m c d8.2 m8.2 h8
  generalize colB d m c = q at *
  refine calls_to tok mix Tryz.func4 rfl rfl rfl ?_
  intro _
  refine Br.mk (fun _ => ?_) (fun _ => ?_)
  · refine CallV.to _ c_example35 rfl ?_
    exact .refl
  intro _
  refine Br.mk (fun _ => ?_) (fun _ => ?_)
  · refine CallV.to _ c_example35 rfl ?_
    exact .refl
  refine CallV.fresh _ _ n1 rfl (fun _ _ => rfl) (.inr (fun _ _ => rfl)) ?_
  refine CallV.fresh _ _ n2 rfl (fun _ _ => rfl) (.inr (fun _ _ => rfl)) ?_
  refine CallV.to _ (r_bequal q.1 q.1) rfl ?_
  refine Br.mk (fun _ => ?_) (fun h => absurd rfl h)
  refine Br.mk (fun _ => ?_) (fun h => absurd rfl h)
  refine CallV.to _ c_example35 rfl ?_
  exact .refl
theorem canon_ok {r : Rc} (h : r.canon = r) : r.ok := by
  rcases Rc.canon_self h with rfl | k
  · decide
  · exact (Rc.notmt k).1
theorem withB_bad {f : Int → Int → Pix} {d : Bm} {m : Mk} {mode : Int} (h : ¬ (withB f d m mode).2 = 0) : (withB f d m mode).1 = zeroB := by
  unfold withB at *
  split at h
  · rw [if_pos ‹_›]
  · rw [if_neg ‹_›]
    split at h
    · rw [if_pos ‹_›]
    · rw [if_neg ‹_›]
      split at h
      · rw [if_pos ‹_›]
      · exact absurd rfl h
theorem withB_good {f : Int → Int → Pix} {d : Bm} {m : Mk} {mode : Int} (h : (withB f d m mode).2 = 0) : d.ok ∧ m.ok ∧ modeOK mode ∧ withB f d m mode = (⟨d.b, grid d.b fun x y => coverP mode (f x y) (d.at_ x y) (m.at_ x y)⟩, 0) := by
  unfold withB at *
  split at h
  · exact absurd h (show ¬ (15 : Int) = 0 by decide)
  · rename_i h1
    rw [if_neg h1]
    split at h
    · exact absurd h (show ¬ (14 : Int) = 0 by decide)
    · rename_i h2
      rw [if_neg h2]
      split at h
      · exact absurd h (show ¬ (2 : Int) = 0 by decide)
      · rename_i h3
        rw [if_neg h3]
        exact ⟨Decidable.not_not.1 h1, Decidable.not_not.1 h2, Decidable.not_not.1 h3, rfl⟩
theorem brushB_good {f : Int → Int → Pix} {r : Rc} (h : r.canon = r) (hA : r.area ≤ 65536) : brushB f r = (⟨r, grid r f⟩, 0) := by
  unfold brushB
  rw [if_neg (fun k => k (canon_ok h)), if_neg (by omega), h]
theorem grid_8 {r : Rc} {f : Int → Int → Pix} (hr : r.canon = r) (h : ∀ x y, P8 (f x y)) : B8 ⟨r, grid r f⟩ := fun p hp => by
  obtain ⟨x, y, _, rfl⟩ := grid_mem hr hp
  exact h x y
theorem grid_ok {r : Rc} {f : Int → Int → Pix} (hr : r.canon = r) (hA : r.area ≤ 65536) (h : ∀ x y, pxOK (f x y)) : Bm.ok ⟨r, grid r f⟩ :=
  ⟨hr, hA, by show ((grid r f).length : Int) = r.area; rw [grid_len]; have := r.area_range; omega, fun p hp => by
    obtain ⟨x, y, _, rfl⟩ := grid_mem hr hp
    exact h x y⟩
theorem grid_val {r : Rc} {f : Int → Int → Pix} {x y : Int} (h : r.has x y) : Bm.at_ ⟨r, grid r f⟩ x y = f x y := by
  unfold Bm.at_
  rw [if_pos h]
  show (Option.getD (grid r f)[(r.idx x y).toNat]? zeroP) = _
  rw [grid_at h]; rfl
theorem over_brush {f : Int → Int → Pix} {d : Bm} {m : Mk} {mode : Int} (hd : d.ok) (hm : m.ok) (ho : modeOK mode) (hf : ∀ x y, pxOK (f x y)) :
    overB mode ⟨d.b, grid d.b f⟩ d m = (⟨d.b, grid d.b fun x y => coverP mode (f x y) (d.at_ x y) (m.at_ x y)⟩, 0) := by
  unfold overB
  rw [if_neg (fun k => k ⟨grid_ok hd.1 hd.2.1 hf, hd⟩), if_neg (fun k => k hm), if_neg (fun k => k ho)]
  congr 2
  exact grid_congr hd.1 fun x y h => by rw [grid_val h]

theorem lookP_ok {p : Pnt} (t : AF) (h8 : P8p p) (x y : Int) : pxOK (lookP p t x y) := by
  unfold lookP
  split
  · rename_i h
    exact atP_ok h8
  · exact ⟨by decide, by decide, by decide⟩
set_option maxRecDepth 100000 in
set_option maxHeartbeats 16000000 in
theorem c_lawBlendOver (k : Job) (hw : JobW k) : CallsG Tryz.prog 6 [.agg (jobE k)] [] (bl true) [] := by
  obtain ⟨⟨_, d8⟩, ⟨_, m8⟩, h8, _⟩ := hw
  refine calls_to tok mix Tryz.func6 rfl rfl rfl ?_
  refine CallV.to _ (c_lightJ k) rfl ?_
  refine Br.mk (fun _ => ?_) (fun h1 => ?_)
  · refine CallV.to _ c_example35 rfl ?_
    exact .refl
  have hl := Decidable.not_not.1 h1
  obtain ⟨B, hB, nb, hat⟩ := c_lbrush k.p k.t (light_few hl) hl.2.2.1 h8
  have n1 := p_withX hB (lookP k.p k.t) hat (lookP_8 k.t h8) k.d k.m k.mode d8 m8
  have hB' := hB
  rcases hB' with rfl | ⟨cs, rfl⟩
  · refine CallV.to _ nb rfl ?_
    refine CallV.fresh _ _ n1 rfl (fun _ _ => rfl) (.inr (fun _ _ => rfl)) ?_
    refine Br.mk (fun h2 => ?_) (fun h2 => ?_)
    · have e := withB_bad h2
      refine CallV.to _ ((r_bequal (withB (lookP k.p k.t) k.d k.m k.mode).1 zeroB).args (.cons .refl (.cons LE_nilB .nil))) rfl ?_
      refine Br.mk (fun _ => ?_) (fun h => absurd e h)
      refine CallV.to _ c_example35 rfl ?_
      exact .refl
    obtain ⟨hd, hm, ho, eq⟩ := withB_good (Decidable.not_not.1 h2)
    have n3 := p_brushX hB (lookP k.p k.t) hat k.d.b
    rw [brushB_good hd.1 hd.2.1] at n3
    have n4 := p_over k.mode ⟨k.d.b, grid k.d.b (lookP k.p k.t)⟩ k.d k.m (grid_8 hd.1 (lookP_8 k.t h8)) d8 m8
    rw [over_brush hd hm ho (lookP_ok k.t h8), ← eq] at n4
    have hv : (withB (lookP k.p k.t) k.d k.m k.mode).1.ok := by
      rw [eq]
      exact grid_ok hd.1 hd.2.1 fun x y => (coverP_ok ho (lookP_8 k.t h8 x y) (Bm.at_8 d8 x y) (Mk.at_8 m8 x y)).1
    refine CallV.fresh _ _ n3 rfl (fun _ _ => rfl) (.inr (fun _ _ => rfl)) ?_
    refine CallV.fresh _ _ n4 rfl (fun _ _ => rfl) (.inr (fun _ _ => rfl)) ?_
    refine Br.mk (fun _ => ?_) (fun h => absurd rfl h)
    refine Br.mk (fun _ => ?_) (fun h => absurd (Decidable.not_not.1 h2) h)
    refine CallV.to _ (r_bequal (withB (lookP k.p k.t) k.d k.m k.mode).1 (withB (lookP k.p k.t) k.d k.m k.mode).1) rfl ?_
    refine Br.mk (fun _ => ?_) (fun h => absurd rfl h)
    refine CallV.to _ (r_bvalid (withB (lookP k.p k.t) k.d k.m k.mode).1) rfl ?_
    refine Br.mk (fun _ => ?_) (fun h => absurd hv h)
    refine CallV.to _ c_example35 rfl ?_
    exact .refl
  · refine CallV.to _ nb rfl ?_
    refine CallV.fresh _ _ n1 rfl (fun _ _ => rfl) (.inr (fun _ _ => rfl)) ?_
    refine Br.mk (fun h2 => ?_) (fun h2 => ?_)
    · have e := withB_bad h2
      refine CallV.to _ ((r_bequal (withB (lookP k.p k.t) k.d k.m k.mode).1 zeroB).args (.cons .refl (.cons LE_nilB .nil))) rfl ?_
      refine Br.mk (fun _ => ?_) (fun h => absurd e h)
      refine CallV.to _ c_example35 rfl ?_
      exact .refl
    obtain ⟨hd, hm, ho, eq⟩ := withB_good (Decidable.not_not.1 h2)
    have n3 := p_brushX hB (lookP k.p k.t) hat k.d.b
    rw [brushB_good hd.1 hd.2.1] at n3
    have n4 := p_over k.mode ⟨k.d.b, grid k.d.b (lookP k.p k.t)⟩ k.d k.m (grid_8 hd.1 (lookP_8 k.t h8)) d8 m8
    rw [over_brush hd hm ho (lookP_ok k.t h8), ← eq] at n4
    have hv : (withB (lookP k.p k.t) k.d k.m k.mode).1.ok := by
      rw [eq]
      exact grid_ok hd.1 hd.2.1 fun x y => (coverP_ok ho (lookP_8 k.t h8 x y) (Bm.at_8 d8 x y) (Mk.at_8 m8 x y)).1
    refine CallV.fresh _ _ n3 rfl (fun _ _ => rfl) (.inr (fun _ _ => rfl)) ?_
    refine CallV.fresh _ _ n4 rfl (fun _ _ => rfl) (.inr (fun _ _ => rfl)) ?_
    refine Br.mk (fun _ => ?_) (fun h => absurd rfl h)
    refine Br.mk (fun _ => ?_) (fun h => absurd (Decidable.not_not.1 h2) h)
    refine CallV.to _ (r_bequal (withB (lookP k.p k.t) k.d k.m k.mode).1 (withB (lookP k.p k.t) k.d k.m k.mode).1) rfl ?_
    refine Br.mk (fun _ => ?_) (fun h => absurd rfl h)
    refine CallV.to _ (r_bvalid (withB (lookP k.p k.t) k.d k.m k.mode).1) rfl ?_
    refine Br.mk (fun _ => ?_) (fun h => absurd hv h)
    refine CallV.to _ c_example35 rfl ?_
    exact .refl

set_option maxRecDepth 100000 in
set_option maxHeartbeats 16000000 in
theorem c_lawBrushBitmap (k : Job) (r : Rc) (hw : JobW k) : CallsG Tryz.prog 5 [.agg (jobE k), .agg (rcE r)] [] (bl true) [] := by
  obtain ⟨⟨_, d8⟩, ⟨_, m8⟩, h8, _⟩ := hw
  refine calls_to tok mix Tryz.func5 rfl rfl rfl ?_
  refine CallV.to _ (c_lightJ k) rfl ?_
  refine Br.mk (fun _ => ?_) (fun h1 => ?_)
  · refine CallV.to _ c_example35 rfl ?_
    exact .refl
  have hl := Decidable.not_not.1 h1
  obtain ⟨B, hB, nb, hat⟩ := c_lbrush k.p k.t (light_few hl) hl.2.2.1 h8
  have n1 := p_brushX hB (lookP k.p k.t) hat r
  have n2 := r_brushB r k.p k.t hl.2.2.2.1 hl.2.2.1 h8
  generalize brushB (lookP k.p k.t) r = q at *
  refine CallV.to _ (r_area r) rfl ?_
  rcases hB with rfl | ⟨cs, rfl⟩
  · refine Br.mk (fun _ => ?_) (fun _ => ?_)
    · refine CallV.to _ (r_area r) rfl ?_
      refine Br.mk (fun _ => ?_) (fun _ => ?_)
      · refine CallV.to _ c_example35 rfl ?_
        exact .refl
      · refine Dr.dyn (Ob.mk (by decide +kernel) ?_)
        refine CallV.to _ nb rfl ?_
        refine CallV.fresh _ _ n1 rfl (fun _ _ => rfl) (.inr (fun _ _ => rfl)) ?_
        refine Ob.mk (by kernel_rfl) ?_
        refine CallV.fresh _ _ n2 rfl (fun _ _ => rfl) (.inr (fun _ _ => rfl)) ?_
        refine CallV.to _ (r_bequal q.1 q.1) rfl ?_
        refine Br.mk (fun _ => ?_) (fun h => absurd rfl h)
        refine Br.mk (fun _ => ?_) (fun h => absurd rfl h)
        refine CallV.to _ c_example35 rfl ?_
        exact .refl
    · refine Dr.dyn (Ob.mk (by decide +kernel) ?_)
      refine CallV.to _ nb rfl ?_
      refine CallV.fresh _ _ n1 rfl (fun _ _ => rfl) (.inr (fun _ _ => rfl)) ?_
      refine Ob.mk (by kernel_rfl) ?_
      refine CallV.fresh _ _ n2 rfl (fun _ _ => rfl) (.inr (fun _ _ => rfl)) ?_
      refine CallV.to _ (r_bequal q.1 q.1) rfl ?_
      refine Br.mk (fun _ => ?_) (fun h => absurd rfl h)
      refine Br.mk (fun _ => ?_) (fun h => absurd rfl h)
      refine CallV.to _ c_example35 rfl ?_
      exact .refl
  · refine Br.mk (fun _ => ?_) (fun _ => ?_)
    · refine CallV.to _ (r_area r) rfl ?_
      refine Br.mk (fun _ => ?_) (fun _ => ?_)
      · refine CallV.to _ c_example35 rfl ?_
        exact .refl
      · refine Dr.dyn (Ob.mk (by decide +kernel) ?_)
        refine CallV.to _ nb rfl ?_
        refine CallV.fresh _ _ n1 rfl (fun _ _ => rfl) (.inr (fun _ _ => rfl)) ?_
        refine Ob.mk (by kernel_rfl) ?_
        refine CallV.fresh _ _ n2 rfl (fun _ _ => rfl) (.inr (fun _ _ => rfl)) ?_
        refine CallV.to _ (r_bequal q.1 q.1) rfl ?_
        refine Br.mk (fun _ => ?_) (fun h => absurd rfl h)
        refine Br.mk (fun _ => ?_) (fun h => absurd rfl h)
        refine CallV.to _ c_example35 rfl ?_
        exact .refl
    · refine Dr.dyn (Ob.mk (by decide +kernel) ?_)
      refine CallV.to _ nb rfl ?_
      refine CallV.fresh _ _ n1 rfl (fun _ _ => rfl) (.inr (fun _ _ => rfl)) ?_
      refine Ob.mk (by kernel_rfl) ?_
      refine CallV.fresh _ _ n2 rfl (fun _ _ => rfl) (.inr (fun _ _ => rfl)) ?_
      refine CallV.to _ (r_bequal q.1 q.1) rfl ?_
      refine Br.mk (fun _ => ?_) (fun h => absurd rfl h)
      refine Br.mk (fun _ => ?_) (fun h => absurd rfl h)
      refine CallV.to _ c_example35 rfl ?_
      exact .refl

end Go.Gs
/- The pattern paint of an image, moved by whole pixels: what its brush shows. -/
namespace Go.Gs
open Go.Proofs

theorem qbits_z {n : Int} (h : R64 n) : qbits (n : Rat) ≤ 256 := by
  unfold qbits
  rw [Rat.num_intCast, Rat.den_intCast]
  have h1 : nbits 1 = 1 := by decide +kernel
  have h2 : nbits n.natAbs ≤ 64 := by
    by_cases h0 : n.natAbs = 0
    · rw [h0]; decide
    · have := nbits_ge h0
      unfold R64 at h
      refine Nat.le_of_not_lt fun k => ?_
      have : 2 ^ 64 ≤ 2 ^ (nbits n.natAbs - 1) := Nat.pow_le_pow_right (by decide) (by omega)
      omega
  omega
theorem trA_ok {x y : Int} (hx : R64 x) (hy : R64 y) : (trA (x : Rat) (y : Rat)).ok := by
  have a := qbits_z (show R64 1 by decide)
  have b := qbits_z (show R64 0 by decide)
  have c := qbits_z hx
  have d := qbits_z hy
  unfold AF.ok
  simp only [okI, AF.nth, trA, afQ, ofQ_v, true_and]
  exact ⟨⟨⟨⟨⟨a, b⟩, b⟩, a⟩, c⟩, d⟩
theorem r0 : ((0 : Int) : Rat) = 0 := rfl
theorem r1 : ((1 : Int) : Rat) = 1 := rfl
theorem beh_id_tr (x y : Rat) : beh idA (trA x y) = trA x y := by
  unfold beh trA idA afQ applX applY
  simp only [ofQ_v, r0, r1]
  congr 1 <;> congr 1 <;> grind
theorem beh_tr_id (x y : Rat) : beh (trA x y) idA = trA x y := by
  unfold beh trA idA afQ applX applY
  simp only [ofQ_v, r0, r1]
  congr 1 <;> congr 1 <;> grind
theorem det_tr (x y : Rat) : detQ (trA x y) = 1 := by
  unfold detQ trA afQ
  simp only [ofQ_v, r0, r1]
  decide +kernel
theorem inv_tr (x y : Rat) : invA (trA x y) = trA (-x) (-y) := by
  have hd := det_tr x y
  unfold invA inv0
  rw [hd]
  unfold trA afQ applX applY
  simp only [ofQ_v, zBR_v, r0, r1]
  have e1 : (1 : Rat) / 1 = 1 := by decide +kernel
  have e2 : -(0 : Rat) / 1 = 0 := by decide +kernel
  rw [e1, e2]
  congr 1 <;> congr 1 <;> grind
theorem ok_id : idA.ok := trA_ok (x := 0) (y := 0) (by decide) (by decide)
theorem compR_tr {x y : Int} (hx : R64 x) (hy : R64 y) : compR (trA (x : Rat) (y : Rat)) idA = (trA (x : Rat) (y : Rat), 0) := by
  have h := trA_ok hx hy
  unfold compR
  rw [beh_id_tr, beh_tr_id, if_neg (fun k => k h), if_neg (fun k => k ok_id), if_neg (fun k => k h), if_neg (fun k => k h)]
theorem invR_tr {x y : Int} (hx : R64 x) (hy : R64 y) (kx : R64 (-x)) (ky : R64 (-y)) : invR (trA (x : Rat) (y : Rat)) = (trA ((-x : Int) : Rat) ((-y : Int) : Rat), 0) := by
  have h := trA_ok hx hy
  have k := trA_ok kx ky
  rw [Rat.intCast_neg, Rat.intCast_neg] at *
  unfold invR
  rw [inv_tr, det_tr, if_neg (fun z => z h), if_neg (by decide), if_neg (fun z => z k)]

/-- The pattern. -/
def patP (m : Img) (a b : Int) : Pnt := ⟨4, zeroP, zp, zp, 0, [], 2, m, 1, trA ((256 * a : Int) : Rat) ((256 * b : Int) : Rat)⟩
def nearA (a : Int) : Prop := -1000 < a ∧ a < 1000
theorem near_r {a : Int} (h : nearA a) : R64 (256 * a) ∧ R64 (-(256 * a)) := by unfold nearA at h; unfold R64; omega
theorem pat_nb {m : Img} (hm : imgOK m) {a b : Int} (ha : nearA a) (hb : nearA b) : nbErr (patP m a b) idA = 0 ∧ backA (patP m a b) idA = trA ((-(256 * a) : Int) : Rat) ((-(256 * b) : Int) : Rat) := by
  have pa := near_r ha
  have pb := near_r hb
  have hc := compR_tr pa.1 pb.1
  have hi := invR_tr pa.1 pb.1 pa.2 pb.2
  have hk : pntOK (patP m a b) := ⟨trA_ok pa.1 pb.1, .inr (.inr (.inr ⟨rfl, ⟨⟨rfl, rfl, rfl, rfl⟩, rfl, hm, .inr ⟨(by decide : (1 : Int) ≤ 2), (by decide : (2 : Int) ≤ 3)⟩, .inl rfl⟩⟩)), .inr (by
    show ¬ detQ (trA _ _) = 0
    rw [det_tr]; decide)⟩
  have et : (patP m a b).t = trA ((256 * a : Int) : Rat) ((256 * b : Int) : Rat) := rfl
  unfold nbErr backA bothA
  rw [if_neg (fun k => k hk), if_neg (show ¬ (patP m a b).k = 1 from (by decide : ¬ (4 : Int) = 1)), et, hc, if_neg (fun k => k rfl), hi]
  exact ⟨rfl, rfl⟩
theorem mid_tr (n a : Int) : (midQ n + ((-(256 * a) : Int) : Rat)) / ((256 : Int) : Rat) = ((n - a : Int) : Rat) + Rat.divInt 1 2 := by
  unfold midQ
  rw [← Rat.intCast_add, show 256 * n + 128 + -(256 * a) = 256 * (n - a) + 128 by omega, Rat.intCast_add, Rat.intCast_mul, Rat.div_def]
  have k : ((256 : Int) : Rat) * ((256 : Int) : Rat)⁻¹ = 1 := by decide +kernel
  have h : ((128 : Int) : Rat) * ((256 : Int) : Rat)⁻¹ = Rat.divInt 1 2 := by decide +kernel
  generalize ((256 : Int) : Rat)⁻¹ = q at *
  generalize ((256 : Int) : Rat) = z at *
  grind
theorem pat_at {m : Img} (hm : imgOK m) (h8 : ∀ q ∈ m.px, P8 q) {a b : Int} (ha : nearA a) (hb : nearA b) {x y : Int} (hx : inR x) (hy : inR y) :
    lookP (patP m a b) idA x y = imP m ((x - a) % m.w) ((y - b) % m.h) := by
  obtain ⟨h0, hbk⟩ := pat_nb hm ha hb
  unfold lookP
  rw [if_pos h0]
  unfold atP
  rw [if_neg (fun k => k ⟨hx, hy⟩), if_neg (show ¬ (patP m a b).k = 1 from (by decide : ¬ (4 : Int) = 1))]
  unfold srcP
  rw [if_neg (show ¬ (patP m a b).k = 2 from (by decide : ¬ (4 : Int) = 2)), if_neg (show ¬ (patP m a b).k = 3 from (by decide : ¬ (4 : Int) = 3))]
  unfold uQ vQ
  rw [hbk, (trA_apply _ _ _ _).1, (trA_apply _ _ _ _).2, mid_tr, mid_tr]
  show smp m 1 2 _ _ = _
  unfold nearA at ha hb
  unfold inR at hx hy
  rw [smp_half hm h8 (.inl rfl) 2 (by omega) (by omega)]
  unfold texelI imP
  rw [wrap2 hm.1.1, wrap2 hm.2.1.1, if_pos ⟨rfl, rfl⟩, List.getD_eq_getElem?_getD]

/-- A mask that covers all alike. -/
def unifM (r : Rc) : Mk := ⟨r, List.replicate r.area.toNat 255⟩
theorem unif_ok {r : Rc} (h : r.canon = r) (hA : r.area ≤ 65536) : (unifM r).ok := ⟨h, hA, by
  show ((List.replicate r.area.toNat (255 : Int)).length : Int) = r.area
  have := r.area_range
  rw [List.length_replicate]; omega⟩
theorem unif_at {r : Rc} {x y : Int} (h : r.has x y) : (unifM r).at_ x y = 255 := by
  have hi := Rc.idx_has h
  unfold Mk.at_
  show (if r.has x y then ((List.replicate r.area.toNat (255 : Int))[(r.idx x y).toNat]?).getD 0 else 0) = 255
  rw [if_pos h, List.getElem?_replicate, if_pos (by omega)]
  rfl
theorem tiled_pat {d : Bm} (hd : d.ok) {m : Img} (hm : imgOK m) (h8 : ∀ q ∈ m.px, P8 q) {a b : Int} (ha : nearA a) (hb : nearA b) :
    withB (lookP (patP m a b) idA) d (unifM d.b) 1 = tiledB d m a b := by
  have u := unif_ok hd.1 hd.2.1
  have m1 : modeOK 1 := ⟨by decide, by decide⟩
  have e1 : withB (lookP (patP m a b) idA) d (unifM d.b) 1 = (⟨d.b, grid d.b fun x y => coverP 1 (lookP (patP m a b) idA x y) (d.at_ x y) ((unifM d.b).at_ x y)⟩, 0) := by
    rw [withB, if_neg (fun k => k hd), if_neg (fun k => k u), if_neg (fun k => k m1)]
  unfold nearA at ha hb
  have hr : inRc a ∧ inRc b := by unfold inRc; omega
  have e2 : tiledB d m a b = (⟨d.b, grid d.b fun x y => coverP 1 (imP m ((x - a) % m.w) ((y - b) % m.h)) (d.at_ x y) 255⟩, 0) := by
    rw [tiledB, if_neg (fun k => k hd), if_neg (fun k => k hm), if_neg (fun k => k hr)]
  rw [e1, e2]
  refine congrArg (fun l => ((⟨d.b, l⟩ : Bm), (0 : Int))) (grid_congr hd.1 fun x y h => ?_)
  have hc := (Rc.notmt h.1).1
  have h1 : inR x ∧ inR y := by
    unfold Rc.has at h
    unfold Rc.ok inRc at hc
    unfold inR
    omega
  rw [pat_at hm h8 ha hb h1.1 h1.2, unif_at h]
theorem LE_patP (m : Img) (a b : Int) : LE (.agg (i64 4 :: u8 0 :: u8 0 :: u8 0 :: u8 0 :: i64 0 :: i64 0 :: i64 0 :: i64 0 :: i64 0 :: nil1 :: i64 2 :: i64 m.w :: i64 m.h :: .sl pixE m.px :: i64 1 :: afE (trA ((256 * a : Int) : Rat) ((256 * b : Int) : Rat)))) (.agg (pntE (patP m a b))) :=
  LE_agg (.cons .refl (.cons .refl (.cons .refl (.cons .refl (.cons .refl (.cons .refl (.cons .refl (.cons .refl (.cons .refl (.cons .refl (.cons LE_nil0 (.cons .refl (.cons .refl (.cons .refl (.cons .refl (.cons .refl LEs.refl))))))))))))))))
theorem tr_le12 {a b : Int} (ha : nearA a) (hb : nearA b) : (trA ((256 * a : Int) : Rat) ((256 * b : Int) : Rat)).le 12 := by
  have h1 := qlen_i64 (n := 1) (by decide)
  have h0 := qlen_i64 (n := 0) (by decide)
  have la := qlen_i64 (near_r ha).1
  have lb := qlen_i64 (near_r hb).1
  refine ⟨?_, ?_, ?_, ?_, ?_, ?_⟩ <;> (show (ofQ _).len ≤ 12; rw [ofQ_len]; omega)
end Go.Gs
/- A repeated image, the reference's, and the law. -/
namespace Go.Gs
open Go.Proofs

set_option maxRecDepth 100000 in
set_option maxHeartbeats 4000000 in
theorem r_tiled (d : Bm) (m : Img) (dx dy : Int) (d8 : B8 d) (h8 : ∀ q ∈ m.px, P8 q) :
    CallsG Tryz.prog 29 [.agg (bmE d), .agg (imgE m), i64 dx, i64 dy] [] (bmR (tiledB d m dx dy)) [(0, .arr 57 pixE 4 (tiledB d m dx dy).1.px)] := by
  generalize hq : tiledB d m dx dy = q
  refine calls_own tok mix Tryz.func29 rfl rfl rfl ?_
  refine CallV.to _ (r_bvalid d) rfl ?_
  refine Br.mk (fun h1 => ⟨none, bad_bm (q := q) (e := 15) (by rw [← hq, tiledB, if_pos h1])⟩) (fun h1 => ?_)
  refine CallV.to _ (c_valid' m) rfl ?_
  refine Br.mk (fun h2 => ⟨none, bad_bm (q := q) (e := 16) (by rw [← hq, tiledB, if_neg h1, if_pos h2])⟩) (fun h2 => ?_)
  refine CallV.to _ (r_reach dx) rfl ?_
  refine Br.mk (fun h3 => ⟨none, bad_bm (q := q) (e := 6) (by rw [← hq, tiledB, if_neg h1, if_neg h2, if_pos (fun k => h3 k.1)])⟩) (fun h3 => ?_)
  refine CallV.to _ (r_reach dy) rfl ?_
  refine Br.mk (fun h4 => ⟨none, bad_bm (q := q) (e := 6) (by rw [← hq, tiledB, if_neg h1, if_neg h2, if_pos (fun k => h4 k.2)])⟩) (fun h4 => ?_)
  have h34 : inRc dx ∧ inRc dy := ⟨Decidable.not_not.1 h3, Decidable.not_not.1 h4⟩
  obtain ⟨g, hg⟩ : ∃ g : Int → Int → Pix, g = (fun x y => coverP 1 (imP m ((x - dx) % m.w) ((y - dy) % m.h)) (d.at_ x y) 255) := ⟨_, rfl⟩
  have e : q = (⟨d.b, grid d.b g⟩, 0) := by rw [← hq, tiledB, if_neg h1, if_neg h2, if_neg (fun k => k h34), hg]
  have hcov : ∀ x y : Int, CallsG Tryz.prog 49 [i64 1, .agg (pixE (imP m ((x - dx) % m.w) ((y - dy) % m.h))), .agg (pixE (d.at_ x y)), u8 255] [] (.agg (pixE (g x y))) [] := fun x y => hg ▸ r_cover 1 (imP m ((x - dx) % m.w) ((y - dy) % m.h)) (d.at_ x y) 255 (imP_8 h8 _ _) (Bm.at_8 d8 x y) (by show R8 255; decide)
  have hd := Decidable.not_not.1 h1
  obtain ⟨⟨m1, m2⟩, ⟨m3, m4⟩, m5, m6, _⟩ := Decidable.not_not.1 h2
  have hc := hd.1
  have hA := hd.2.1
  have hl := hd.2.2.1
  clear hg hq
  subst e
  unfold inRc at h34
  have hsd := Rc.sides hc
  unfold inRc at hsd
  have ew : d.b.w = d.b.x1 - d.b.x0 := rfl
  have eh : d.b.h = d.b.y1 - d.b.y0 := rfl
  refine ⟨Nat, fun i => ⟨[(12, i64 (d.b.y0 + (i : Int))), (11, i64 ((i * d.b.w.toNat : Nat) : Int)), (2, i64 dx), (3, i64 dy), (4, .loc 0 0), (5, .loc 1 0), (8, .loc 2 0), (10, .loc 3 0)], [(4, .arr 57 pixE 4 (gridN d.b (g) (i * d.b.w.toNat))), (3, .box 26 [i64 d.b.x0, i64 d.b.y0, i64 d.b.x1, i64 d.b.y1, .own 4]), (2, .box 26 nilB), (1, .box 36 (imgE m)), (0, .box 26 (bmE d))], 5, 90, 0⟩,
    fun i => (i : Int) ≤ d.b.h, fun i => (d.b.h - i).toNat, 0, ?_, ?_, ?_⟩
  · show (0 : Int) ≤ d.b.h; omega
  · exact sub_of [(0, some 0), (1, some 1), (2, some 2), (3, some 3), (4, none)] rfl rfl rfl ⟨congrArg (fun n => some (i64 n)) (show d.b.y0 = d.b.y0 + ((0 : Nat) : Int) by omega), congrArg (fun n => some (i64 n)) (show (0 : Int) = ((0 * d.b.w.toNat : Nat) : Int) by omega), rfl, rfl, rfl, rfl, rfl, rfl, trivial⟩ ⟨by rw [Nat.zero_mul]; rfl, rfl, rfl, rfl, rfl, trivial⟩
  rintro i hi
  have hi : (i : Int) ≤ d.b.h := hi
  refine Br.mk (fun g9 => ?_) (fun g9 => ?_)
  · have g9 : (i : Int) < d.b.h := by omega
    refine ⟨Nat, fun j => ⟨[(13, i64 (d.b.x0 + (j : Int))), (12, i64 (d.b.y0 + (i : Int))), (11, i64 ((i * d.b.w.toNat + j : Nat) : Int)), (2, i64 dx), (3, i64 dy), (4, .loc 0 0), (5, .loc 1 0), (8, .loc 2 0), (10, .loc 3 0)], [(4, .arr 57 pixE 4 (gridN d.b (g) (i * d.b.w.toNat + j))), (3, .box 26 [i64 d.b.x0, i64 d.b.y0, i64 d.b.x1, i64 d.b.y1, .own 4]), (2, .box 26 nilB), (1, .box 36 (imgE m)), (0, .box 26 (bmE d))], 5, 90, 0⟩,
      fun j => (j : Int) ≤ d.b.w, fun j => (d.b.w - j).toNat, 0, ?_, ?_, ?_⟩
    · show (0 : Int) ≤ d.b.w; omega
    · exact sub_of [(0, some 0), (1, some 1), (2, some 2), (3, some 3), (4, some 4)] rfl rfl rfl ⟨congrArg (fun n => some (i64 n)) (show d.b.x0 = d.b.x0 + ((0 : Nat) : Int) by omega), rfl, rfl, rfl, rfl, rfl, rfl, rfl, rfl, trivial⟩ ⟨rfl, rfl, rfl, rfl, rfl, trivial⟩
    rintro j hj
    have hj : (j : Int) ≤ d.b.w := hj
    refine Br.mk (fun k1 => ?_) (fun k1 => ?_)
    · have k1 : (j : Int) < d.b.w := by omega
      have hpl := grid_place hc g9 k1
      have hij := hpl.2.1
      have hu := Int.emod_nonneg (d.b.x0 + (j : Int) - dx) (show m.w ≠ 0 by omega)
      have hu2 := Int.emod_lt_of_pos (d.b.x0 + (j : Int) - dx) (show 0 < m.w by omega)
      have hv := Int.emod_nonneg (d.b.y0 + (i : Int) - dy) (show m.h ≠ 0 by omega)
      have hv2 := Int.emod_lt_of_pos (d.b.y0 + (i : Int) - dy) (show 0 < m.h by omega)
      have hix := idx_lt hu hu2 hv hv2
      have hmb := mulb hv (Int.le_of_lt hv2) (show 0 ≤ m.w by omega) (Int.le_refl _)
      refine Dr.dyn (Ob.mk (by decide +kernel) ?_)
      refine Ar.fit (by omega) ?_
      refine CallV.to _ (c_mod' (d.b.y0 + (i : Int) - dy) m.h (by unfold R64; omega) (by omega)) rfl ?_
      refine Ar.fit (by omega) ?_
      refine Ar.fit (by omega) ?_
      refine CallV.to _ (c_mod' (d.b.x0 + (j : Int) - dx) m.w (by unfold R64; omega) (by omega)) rfl ?_
      refine Ar.fit (by omega) ?_
      refine Ob.mk (by omega) ?_
      intro z hz
      obtain rfl := imP_get hz
      refine Ob.mk (by kernel_rfl) ?_
      refine Dr.mk (by decide +kernel) ?_
      refine Ob.mk (by omega) ?_
      intro q hq
      obtain rfl := place_px hd hpl.1 hpl.2.2 hq
      refine CallV.to _ (hcov (d.b.x0 + j) (d.b.y0 + i)) rfl ?_
      refine ⟨Pix, pixE, [g (d.b.x0 + j) (d.b.y0 + i)], rfl, Ob.mk (gOne _) ?_⟩
      refine ⟨_, rfl, Ob.mk (gApp _ (by rw [gridN_len]; omega)) ?_⟩
      refine Ar.fit (by omega) ?_
      refine Ar.fit (by omega) ?_
      refine ⟨j + 1, (by show ((j + 1 : Nat) : Int) ≤ d.b.w; omega), sub_of [(0, some 0), (1, some 1), (2, some 2), (3, some 3), (4, some 7)] rfl rfl rfl
        ⟨congrArg (fun n => some (i64 n)) (show d.b.x0 + j + 1 = d.b.x0 + ((j + 1 : Nat) : Int) by omega), rfl, rfl, rfl, rfl, rfl, rfl, rfl, rfl, trivial⟩
        ⟨congrArg (fun l => some (Mem.arr 57 pixE 4 l)) (gridN_step k1), rfl, rfl, rfl, rfl, trivial⟩, (by dsimp only; omega)⟩
    · have hjw : j = d.b.w.toNat := by omega
      refine Ar.fit (by omega) ?_
      refine ⟨i + 1, (by show ((i + 1 : Nat) : Int) ≤ d.b.h; omega), sub_of [(0, some 0), (1, some 1), (2, some 2), (3, some 3), (4, some 4)] rfl rfl rfl
        ⟨congrArg (fun n => some (i64 n)) (show d.b.y0 + i + 1 = d.b.y0 + ((i + 1 : Nat) : Int) by omega), congrArg (fun n : Nat => some (i64 n)) (by rw [hjw, Nat.add_mul, Nat.one_mul]), rfl, rfl, rfl, rfl, rfl, rfl, trivial⟩
        ⟨congrArg (fun l => some (Mem.arr 57 pixE 4 l)) (by rw [hjw, gridN_row]), rfl, rfl, rfl, rfl, trivial⟩, (by dsimp only; omega)⟩
  · have hih : i = d.b.h.toNat := by omega
    exact ⟨some 4, take_tup (.cons (take_agg (.cons (take_int rfl) (.cons (take_int rfl) (.cons (take_int rfl) (.cons (take_int rfl) (.cons (.own _ rfl) .nil)))))) (.cons (take_int rfl) .nil)), by rw [hih, ← gridN_full hc]; rfl, fun _ _ => rfl⟩

set_option maxRecDepth 100000 in
set_option maxHeartbeats 8000000 in
theorem c_lawTiled (d : Bm) (m : Img) (s : Int × Int) (d8 : BmW d) (hw : R64 m.w ∧ R64 m.h ∧ ∀ q ∈ m.px, P8 q) : CallsG Tryz.prog 8 [.agg (bmE d), .agg (imgE m), .agg [i64 s.1, i64 s.2]] [] (bl true) [] := by
  refine calls_to tok mix Tryz.func8 rfl rfl rfl ?_
  intro _
  refine Br.mk (fun _ => ?_) (fun g1 => ?_)
  · refine CallV.to _ c_example35 rfl ?_
    exact .refl
  intro _
  refine Br.mk (fun _ => ?_) (fun g2 => ?_)
  · refine CallV.to _ c_example35 rfl ?_
    exact .refl
  have n1 := p_tiled d m s.1 s.2 d8.2 hw.2.2 (by omega) (by omega)
  have n2 := r_tiled d m s.1 s.2 d8.2 hw.2.2
  generalize tiledB d m s.1 s.2 = q at *
  refine CallV.fresh _ _ n1 rfl (fun _ _ => rfl) (.inr (fun _ _ => rfl)) ?_
  refine CallV.fresh _ _ n2 rfl (fun _ _ => rfl) (.inr (fun _ _ => rfl)) ?_
  refine CallV.to _ (r_bequal q.1 q.1) rfl ?_
  refine Br.mk (fun _ => ?_) (fun h => absurd rfl h)
  refine Br.mk (fun _ => ?_) (fun h => absurd rfl h)
  refine CallV.to _ c_example35 rfl ?_
  exact .refl

end Go.Gs
/- The law that a repeated image is a fill with its pattern. -/
namespace Go.Gs
open Go.Proofs

set_option maxRecDepth 100000 in
set_option maxHeartbeats 4000000 in
theorem r_uniform (r : Rc) (hc : r.canon = r) (hA : r.area ≤ 65536) : CallsG Tryz.prog 35 [.agg (rcE r), u8 255] [] (.tup [.agg [i64 r.x0, i64 r.y0, i64 r.x1, i64 r.y1, .own 0], i64 0])
    [(0, .arr 5 u8E 1 (unifM r).cv)] := by
  have hr := r.area_range
  have pc := r_canon r
  rw [hc] at pc
  refine calls_own tok mix Tryz.func35 rfl rfl rfl ?_
  refine CallV.to _ (r_valid r) rfl ?_
  refine Br.mk (fun h => absurd (canon_ok hc) h) (fun _ => ?_)
  refine CallV.to _ (r_area r) rfl ?_
  refine Br.mk (fun h => absurd h (by omega)) (fun _ => ?_)
  refine CallV.to _ pc rfl ?_
  refine ⟨Nat, fun i => ⟨[(7, i64 (i : Int)), (1, u8 255), (2, .loc 0 0), (4, .loc 1 0), (5, i64 0), (6, .loc 2 0)], [(3, .arr 5 u8E 1 (List.replicate i 255)), (2, .box 29 [i64 r.x0, i64 r.y0, i64 r.x1, i64 r.y1, .own 3]), (1, .box 29 nilB), (0, .box 23 (rcE r))], 4, 32, 0⟩,
    fun i => (i : Int) ≤ r.area, fun i => (r.area - i).toNat, 0, ?_, ?_, ?_⟩
  · show (0 : Int) ≤ r.area; omega
  · exact sub_of [(0, some 0), (1, some 1), (2, some 2), (3, none)] rfl rfl rfl ⟨rfl, rfl, rfl, rfl, rfl, rfl, trivial⟩ ⟨rfl, rfl, rfl, rfl, trivial⟩
  rintro i hi
  have hi : (i : Int) ≤ r.area := hi
  refine CallV.to _ (r_area r) rfl ?_
  refine Br.mk (fun k1 => ?_) (fun k1 => ?_)
  · have k1 : (i : Int) < r.area := k1
    refine ⟨Int, u8E, [255], rfl, Ob.mk ⟨rfl, by decide, by decide, by decide, fun x _ => ⟨rfl, rfl, rfl⟩⟩ ?_⟩
    refine ⟨_, rfl, Ob.mk ⟨(by show (((List.replicate i (255 : Int)).length : Int) + 1) * ((1 : Nat) : Int) ≤ _; rw [List.length_replicate]; omega), (by rw [List.length_replicate]; show i + 1 ≤ _; omega), by decide, fun _ _ => rfl⟩ ?_⟩
    refine Ar.fit (by omega) ?_
    exact ⟨i + 1, (by show ((i + 1 : Nat) : Int) ≤ r.area; omega), sub_of [(0, some 0), (1, some 1), (2, some 2), (3, some 5)] rfl rfl rfl ⟨congrArg (fun n => some (i64 n)) (show (i : Int) + 1 = ((i + 1 : Nat) : Int) by omega), rfl, rfl, rfl, rfl, rfl, trivial⟩
      ⟨congrArg (fun l => some (Mem.arr 5 u8E 1 l)) (show List.replicate i (255 : Int) ++ [255] = List.replicate (i + 1) 255 by rw [List.replicate_succ']), rfl, rfl, rfl, trivial⟩, by dsimp only; omega⟩
  · have k1 : ¬ (i : Int) < r.area := k1
    have e : i = r.area.toNat := by omega
    subst e
    exact ⟨some 3, take_tup (.cons (take_agg (.cons (take_int rfl) (.cons (take_int rfl) (.cons (take_int rfl) (.cons (take_int rfl) (.cons (.own _ rfl) .nil)))))) (.cons (take_int rfl) .nil)), rfl, fun _ _ => rfl⟩

theorem tmod_near {n : Int} : nearA (n.tmod 1000) := by unfold nearA; have := Int.tmod_lt_of_pos n (show (0:Int) < 1000 by decide); have h2 := Int.lt_tmod_of_pos n (show (0:Int) < 1000 by decide); omega

set_option maxRecDepth 100000 in
theorem r12_tr (x y : BR) (hx : x.len ≤ 1000) (hy : y.len ≤ 1000) : CallsG Tryz.prog 33 [.agg (brE x), .agg (brE y)] [] (.agg (afE (trA x.v y.v))) [] := by
  refine calls_to tok mix Tryz.func33 rfl rfl rfl ?_
  refine CallV.to _ (r12_fromints 1 0 0 1 x y (by decide) (by decide) (by decide) (by decide) (by omega) (by omega)) rfl ?_
  exact .refl

set_option maxRecDepth 100000 in
set_option maxHeartbeats 16000000 in
theorem c_lawTiledPattern (d : Bm) (m : Img) (s : Int × Int) (d8 : BmW d) (hw : R64 m.w ∧ R64 m.h ∧ ∀ q ∈ m.px, P8 q) : CallsG Tryz.prog 10 [.agg (bmE d), .agg (imgE m), .agg [i64 s.1, i64 s.2]] [] (bl true) [] := by
  refine calls_to tok mix Tryz.func10 rfl rfl rfl ?_
  intro _
  refine Br.mk (fun _ => ?_) (fun g1 => ?_)
  · refine CallV.to _ c_example35 rfl ?_
    exact .refl
  intro _
  refine Br.mk (fun _ => ?_) (fun g2 => ?_)
  · refine CallV.to _ c_example35 rfl ?_
    exact .refl
  have g1 : ¬ 60 < (d.px.length : Int) := g1
  have g2 : ¬ 60 < (m.px.length : Int) := g2
  refine CallV.to _ (r_bvalid d) rfl ?_
  refine Br.mk (fun _ => ?_) (fun hd => ?_)
  · refine CallV.to _ c_example35 rfl ?_
    exact .refl
  have hd := Decidable.not_not.1 hd
  refine CallV.to _ (c_valid' m) rfl ?_
  refine Br.mk (fun _ => ?_) (fun hm => ?_)
  · refine CallV.to _ c_example35 rfl ?_
    exact .refl
  have hm := Decidable.not_not.1 hm
  have ha := tmod_near (n := s.1)
  have hb := tmod_near (n := s.2)
  obtain ⟨B, hB, nb, hat⟩ := c_lbrush (patP m (s.1.tmod 1000) (s.2.tmod 1000)) idA ⟨by show (0 : Int) ≤ 40; decide, by show (m.px.length : Int) ≤ 300; omega, tr_le12 ha hb⟩ idA_le12 ⟨zero_8, fun _ k => (by cases k), hw.2.2⟩
  have n1 := p_tiled d m (s.1.tmod 1000) (s.2.tmod 1000) d8.2 hw.2.2 (by omega) (by omega)
  have n2 := p_withX hB (lookP (patP m (s.1.tmod 1000) (s.2.tmod 1000)) idA) hat (fun x y => lookP_8 _ ⟨zero_8, fun _ k => (by cases k), hw.2.2⟩ x y) d (unifM d.b) 1 d8.2 (fun c hc => by rw [List.eq_of_mem_replicate hc]; exact ⟨by decide, by decide⟩)
  rw [tiled_pat hd hm hw.2.2 ha hb] at n2
  have e0 : (tiledB d m (s.1.tmod 1000) (s.2.tmod 1000)).2 = 0 := by
    unfold nearA at ha hb
    rw [tiledB, if_neg (fun k => k hd), if_neg (fun k => k hm), if_neg (fun k => k ⟨by unfold inRc; omega, by unfold inRc; omega⟩)]
  have n3 := r_uniform d.b hd.1 hd.2.1
  have pa := near_r ha
  have pb := near_r hb
  have l1 := qlen_i64 pa.1
  have l2 := qlen_i64 pb.1
  have nt := r12_tr (ofQ ((256 * s.1.tmod 1000 : Int) : Rat)) (ofQ ((256 * s.2.tmod 1000 : Int) : Rat)) (by rw [ofQ_len]; omega) (by rw [ofQ_len]; omega)
  rw [ofQ_v, ofQ_v] at nt
  have nb := nb.args (.cons (LE_patP m _ _) (.cons .refl .nil))
  unfold nearA at ha hb
  generalize tiledB d m (s.1.tmod 1000) (s.2.tmod 1000) = q at *
  refine Dr.dyn (Ob.mk (by decide +kernel) ?_)
  refine Dv.any (by decide) ?_
  refine Dv.any (by decide) ?_
  refine Ob.mk (by kernel_rfl) ?_
  generalize s.1.tmod 1000 = a at *
  generalize s.2.tmod 1000 = b at *
  unfold R64 at pa pb
  refine Dr.mk (by decide +kernel) ?_
  refine Ar.fit (by omega) ?_
  refine CallV.to _ (r3_fromInt (256 * a) (by unfold R64; omega)) rfl ?_
  refine Ar.fit (by omega) ?_
  refine CallV.to _ (r3_fromInt (256 * b) (by unfold R64; omega)) rfl ?_
  refine CallV.to _ nt rfl ?_
  refine CallV.fresh _ _ n3 rfl (fun _ _ => rfl) (.inr (fun _ _ => rfl)) ?_
  refine CallV.fresh _ _ n1 rfl (fun _ _ => rfl) (.inr (fun _ _ => rfl)) ?_
  rcases hB with rfl | ⟨cs, rfl⟩
  · refine Dr.dyn (Ob.mk (by decide +kernel) ?_)
    refine CallV.to _ r12_identity rfl ?_
    refine CallV.to _ nb rfl ?_
    refine CallV.fresh _ _ n2 rfl (fun _ _ => rfl) (.inr (fun _ _ => rfl)) ?_
    refine Ob.mk (by kernel_rfl) ?_
    refine Br.mk (fun _ => ?_) (fun h => absurd e0 h)
    refine Br.mk (fun _ => ?_) (fun h => absurd e0 h)
    refine CallV.to _ (r_bequal q.1 q.1) rfl ?_
    refine Br.mk (fun _ => ?_) (fun h => absurd rfl h)
    refine CallV.to _ c_example35 rfl ?_
    exact .refl
  · refine Dr.dyn (Ob.mk (by decide +kernel) ?_)
    refine CallV.to _ r12_identity rfl ?_
    refine CallV.to _ nb rfl ?_
    refine CallV.fresh _ _ n2 rfl (fun _ _ => rfl) (.inr (fun _ _ => rfl)) ?_
    refine Ob.mk (by kernel_rfl) ?_
    refine Br.mk (fun _ => ?_) (fun h => absurd e0 h)
    refine Br.mk (fun _ => ?_) (fun h => absurd e0 h)
    refine CallV.to _ (r_bequal q.1 q.1) rfl ?_
    refine Br.mk (fun _ => ?_) (fun h => absurd rfl h)
    refine CallV.to _ c_example35 rfl ?_
    exact .refl
end Go.Gs
/- What the closed facts of a row ask of the program alone, each by itself. -/
namespace Go.Gs
open Go.Proofs Go.Proofs.YtoggmkhegbfjfaaGreat

/-- A row that says nothing. -/
def dflt : OpenClaim := { program := "", sum := "", func := "", spec := "" }
theorem j_laid : laidOutB Tryz.pinned.checked.prog = true := by kernel_rfl
theorem j_enter : Tryz.pinned.checked.prog.mayEnter = true := by kernel_rfl
theorem j_lifts : Tryz.pinned.checked.prog.liftsFinal = dflt.lifted := by kernel_rfl
theorem j_make : Tryz.pinned.checked.prog.make = some dflt.make := by kernel_rfl
theorem j_heard : Tryz.pinned.checked.prog.stopsHeard = true := by kernel_rfl
theorem j_rowed : mapsRowed Tryz.pinned.checked.prog = true := by kernel_rfl
theorem j_keys : Tryz.pinned.checked.prog.plainKeys = dflt.plainKeys := by kernel_rfl
end Go.Gs
