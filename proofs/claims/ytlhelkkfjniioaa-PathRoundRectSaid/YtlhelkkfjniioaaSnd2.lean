/- The operations on numbers: what is left to be shown is enough. -/
import Derived.Test.YtlhelkkfjniioaaSnd1
import Derived.Laws.BitsLemmas
import Derived.Laws.Small
namespace Go.Gs

theorem kBeq_eq {k k' : IntKind} (h : kBeq k k' = true) : k = k' := by cases k <;> cases k' <;> first | rfl | (simp [kBeq] at h)

def InK (k : IntKind) (e : Int) : Prop :=
  match k with
  | .i64 => -9223372036854775808 ≤ e ∧ e ≤ 9223372036854775807
  | .i32 => -2147483648 ≤ e ∧ e ≤ 2147483647
  | .i16 => -32768 ≤ e ∧ e ≤ 32767
  | .i8 => -128 ≤ e ∧ e ≤ 127
  | .u64 => 0 ≤ e ∧ e ≤ 18446744073709551615
  | .u32 => 0 ≤ e ∧ e ≤ 4294967295
  | .u16 => 0 ≤ e ∧ e ≤ 65535
  | .u8 => 0 ≤ e ∧ e ≤ 255

theorem wrap_fit {k : IntKind} {e : Int} (h : InK k e) : k.wrap e = e := by
  cases k <;> simp only [InK] at h <;> simp [IntKind.wrap, IntKind.bits, IntKind.signed] <;> (try split) <;> omega

theorem fitK_elim {k : IntKind} {e : Int} {K : SV → Prop} (h : fitK k e K) : K (.val (.int k (k.wrap e))) := by
  cases k <;> simp only [fitK] at h <;> cases h with
  | fit h1 h2 => rw [wrap_fit (by exact h1)]; exact h2
  | wrap h => exact h

/-- A value that bears no address. -/
def Good (s : SV) (v : Value) : Prop := (∃ u, s = .val u ∧ v = u) ∨ ∃ p i, s = .pr p i ∧ v = .bool (@decide p i)
theorem Good.g {s : SV} {v : Value} (h : Good s v) {S Pm : Nat → Prop} {ρ : Names} {w : World} : G S Pm ρ w s v := by
  rcases h with ⟨u, rfl, rfl⟩ | ⟨p, i, rfl, rfl⟩
  · exact .d _ _ (.val _)
  · exact .d _ _ (.pr p i)
theorem Good.val (v : Value) : Good (.val v) v := .inl ⟨v, rfl, rfl⟩
theorem Good.pr {p : Prop} {i : Decidable p} {b : Bool} (h : b = @decide p i) : Good (.pr p i) (.bool b) := .inr ⟨p, i, rfl, by rw [h]⟩

theorem kmax_in {k : IntKind} {e : Int} (h0 : 0 ≤ e) (h1 : e ≤ kmax k) : InK k e := by cases k <;> simp only [kmax, InK] at * <;> omega

theorem intV_sound {op : BinOp} {k : IntKind} {m n : Int} {K : SV → Prop} (hs : isShift op = false) (h : intV op k m n K) :
    ∃ s, K s ∧ ∃ v, Good s v ∧ ∀ (P : Program) (t : TypeId) (w : World), (binOp op t (.int k m) (.int k n)).run P w = .ok v w := by
  cases op <;> simp only [intV] at h <;> try (exact h.elim)
  case add => exact ⟨_, fitK_elim h, _, .val _, fun P t w => by simp [binOp, Op.intArith]⟩
  case sub => exact ⟨_, fitK_elim h, _, .val _, fun P t w => by simp [binOp, Op.intArith]⟩
  case mul => exact ⟨_, fitK_elim h, _, .val _, fun P t w => by simp [binOp, Op.intArith]⟩
  case quo =>
    cases h with
    | pos h1 h2 =>
      refine ⟨_, h2, _, .val _, fun P t w => ?_⟩
      have h3 : n ≠ 0 := by omega
      have h4 : m.tdiv n = m / n := Int.tdiv_eq_ediv_of_nonneg h1.1
      have h5 : 0 ≤ m / n := Int.ediv_nonneg h1.1 (by omega)
      have h6 : m / n ≤ m := Int.ediv_le_self n h1.1
      simp [binOp, Op.intDiv, h3, h4, wrap_fit (kmax_in h5 (Int.le_trans h6 h1.2.2))]
    | any h1 h2 => exact ⟨_, fitK_elim h2, _, .val _, fun P t w => by simp [binOp, Op.intDiv, h1]⟩
  case rem =>
    cases h with
    | pos h1 h2 =>
      refine ⟨_, h2, _, .val _, fun P t w => ?_⟩
      have h3 : n ≠ 0 := by omega
      have h4 : m.tmod n = m % n := Int.tmod_eq_emod_of_nonneg h1.1
      simp [binOp, Op.intDiv, h3, h4]
    | any h1 h2 => exact ⟨_, h2, _, .val _, fun P t w => by simp [binOp, Op.intDiv, h1]⟩
  case eql => exact ⟨_, h, .bool (m == n), .pr (by rw [Bool.eq_iff_iff]; simp), fun P t w => by simp [binOp, Op.intCmp]⟩
  case neq => exact ⟨_, h, .bool (m != n), .pr (by rw [Bool.eq_iff_iff]; simp), fun P t w => by simp [binOp, Op.intCmp]⟩
  case lss => exact ⟨_, h, .bool (decide (m < n)), .pr rfl, fun P t w => by simp [binOp, Op.intCmp]⟩
  case leq => exact ⟨_, h, .bool (decide (m ≤ n)), .pr rfl, fun P t w => by simp [binOp, Op.intCmp]⟩
  case gtr => exact ⟨_, h, .bool (decide (m > n)), .pr rfl, fun P t w => by simp [binOp, Op.intCmp]⟩
  case geq => exact ⟨_, h, .bool (decide (m ≥ n)), .pr rfl, fun P t w => by simp [binOp, Op.intCmp]⟩
  case and =>
    obtain ⟨r, hr, h⟩ := h
    refine ⟨_, h, .int k r, .val _, fun P t w => ?_⟩
    rw [hr]; simp [binOp, Op.intBits, bitsK]
  case or =>
    obtain ⟨r, hr, h⟩ := h
    refine ⟨_, h, .int k r, .val _, fun P t w => ?_⟩
    rw [hr]; simp [binOp, Op.intBits, bitsK]
  case xor =>
    obtain ⟨r, hr, h⟩ := h
    refine ⟨_, h, .int k r, .val _, fun P t w => ?_⟩
    rw [hr]; simp [binOp, Op.intBits, bitsK]
  case andNot =>
    obtain ⟨r, hr, h⟩ := h
    refine ⟨_, h, .int k r, .val _, fun P t w => ?_⟩
    rw [hr]; simp [binOp, Op.intBits, bitsK]

theorem shr_eq (m : Int) (c : Nat) : m.fdiv (2 ^ c) = m / 2 ^ c := Int.fdiv_eq_ediv_of_nonneg m (Int.pow_nonneg (by omega))

theorem shiftV_sound {op : BinOp} {y : Operand} {k k' : IntKind} {m n : Int} {K : SV → Prop} (h : shiftV op y k m n K) :
    ∃ s, K s ∧ ∃ v, Good s v ∧ ∀ (P : Program) (t : TypeId) (w : World), (binOp op t (.int k m) (.int k' n)).run P w = .ok v w := by
  unfold shiftV at h
  split at h
  · split at h
    · rename_i c
      have hc : min c k.bits = c := by have := h.ob; omega
      refine ⟨_, fitK_elim h.go, _, .val _, fun P t w => ?_⟩
      simp [binOp, Op.shift, hc]
      intro hn; omega
    · exact h.elim
  · obtain ⟨h0, h1⟩ := h.ob
    have hc : min n.toNat k.bits = n.toNat := by omega
    refine ⟨_, fitK_elim h.go, _, .val _, fun P t w => ?_⟩
    simp [binOp, Op.shift, hc, show ¬ n < 0 by omega]
  · split at h
    · rename_i c
      have hc : min c k.bits = c := by have := h.ob; omega
      refine ⟨_, h.go, _, .val _, fun P t w => ?_⟩
      simp [binOp, Op.shift, hc, shr_eq]
      intro hn; omega
    · exact h.elim
  · obtain ⟨h0, h1⟩ := h.ob
    have hc : min n.toNat k.bits = n.toNat := by omega
    refine ⟨_, h.go, _, .val _, fun P t w => ?_⟩
    simp [binOp, Op.shift, hc, show ¬ n < 0 by omega, shr_eq]
  · exact h.elim

/-- Two rows of integers, kind by kind. -/
def eqB : List Value → List Value → Bool
  | .int _ m :: r, .int _ n :: r' => (m == n) && eqB r r'
  | [], [] => true
  | _, _ => false
inductive Paired : List Value → List Value → Prop
  | nil : Paired [] []
  | cons (k : IntKind) (m n : Int) {r r' : List Value} (h : Paired r r') : Paired (.int k m :: r) (.int k n :: r')

theorem eqCells_elim {cs ds : List SV} : ∀ {K : (p : Prop) → Decidable p → Prop}, eqCells cs ds K → ∃ p i, K p i ∧
    ∀ {S Pm : Nat → Prop} {ρ : Names} {w : World} {vs us : List Value}, Gs S Pm ρ w cs vs → Gs S Pm ρ w ds us → Paired vs us ∧ eqB vs us = @decide p i := by
  induction cs generalizing ds with
  | nil =>
    intro K h
    cases ds with
    | nil => exact ⟨True, _, h, fun h1 h2 => by rw [h1.nil_inv, h2.nil_inv]; exact ⟨.nil, rfl⟩⟩
    | cons d ds => exact h.elim
  | cons c cs ih =>
    intro K h
    cases ds with
    | nil => exact h.elim
    | cons d ds =>
      simp only [eqCells] at h
      have h := force_elim (force_elim h)
      split at h
      · rename_i k m k' n
        obtain ⟨hk, h'⟩ := guardB_elim h
        obtain ⟨p, i, hK, hp⟩ := ih h'
        have hk := kBeq_eq hk
        refine ⟨_, _, hK, fun h1 h2 => ?_⟩
        obtain ⟨v, vs, rfl, h3, h4⟩ := h1.cons_inv
        obtain ⟨u, us, rfl, h5, h6⟩ := h2.cons_inv
        subst hk
        rw [h3.val_inv, h5.val_inv]
        obtain ⟨h7, h8⟩ := hp h4 h6
        refine ⟨.cons _ _ _ h7, ?_⟩
        simp only [eqB, h8]
        rw [Bool.eq_iff_iff]; simp
      · exact h.elim

theorem Paired.length {vs us : List Value} (h : Paired vs us) : vs.length = us.length := by induction h <;> simp_all
theorem Paired.drop {vs us : List Value} (n : Nat) (h : Paired vs us) : Paired (vs.drop n) (us.drop n) := by
  induction n generalizing vs us with
  | zero => exact h
  | succ n ih => cases h with
    | nil => exact .nil
    | cons k m n h => exact ih h
theorem Paired.take {vs us : List Value} (n : Nat) (h : Paired vs us) : Paired (vs.take n) (us.take n) := by
  induction n generalizing vs us with
  | zero => exact .nil
  | succ n ih => cases h with
    | nil => exact .nil
    | cons k m n h => exact .cons _ _ _ (ih h)
theorem eqB_split {vs us : List Value} (n : Nat) (h : Paired vs us) : eqB vs us = (eqB (vs.take n) (us.take n) && eqB (vs.drop n) (us.drop n)) := by
  induction n generalizing vs us with
  | zero => simp [eqB]
  | succ n ih => cases h with
    | nil => rfl
    | cons k m n h => simp [eqB, ih h, Bool.and_assoc]

/-- A value of such a type, out of its cells. -/
def wrapV (agg : Bool) (vs : List Value) : Value := if agg then .agg vs.toArray else vs.headD undef

theorem run_part {P : Program} {t : TypeId} {i : TI} (hT : TOne P t i) (vs : List Value) (off : Nat) (h : off + i.sz ≤ vs.length) (hz : i.kind.agg = false → i.sz = 1) (w : World) :
    (part t vs.toArray off).run P w = .ok (wrapV i.kind.agg ((vs.drop off).take i.sz)) w := by
  unfold part
  rw [Sem.run_bind, hT.agg w, Result.andThen_ok]
  cases hk : i.kind.agg with
  | true => simp [hT.size, wrapV]
  | false =>
    have h1 := hz hk
    have hlt : off < vs.length := by omega
    have h2 : (List.take 1 (List.drop off vs)) = [vs[off]] := by rw [List.drop_eq_getElem_cons hlt]; rfl
    simp [wrapV, h1, hlt, h2]

theorem intsT_go {P : Program} {Γ : List (TypeId × TI)} (hT : TOK P Γ) (n : Nat)
    (ih : ∀ t i, ti Γ t = some i → intsT Γ n t = true → (i.kind.agg = false → i.sz = 1) ∧ ∀ (d : Nat) (vs us : List Value) (w : World), vs.length = i.sz → Paired vs us →
      (Op.equalIn (n + d) t (wrapV i.kind.agg vs) (wrapV i.kind.agg us)).run P w = .ok (eqB vs us) w) (d sz : Nat) (vs us : List Value) (hl : vs.length = sz) (hp : Paired vs us) (w : World) :
    ∀ (F : List Field) (at_ : Nat), intsGo Γ (intsT Γ n) (F.map fun f => (f.offset, f.type)) at_ sz = true → (∀ f ∈ F, f.name ≠ "_") →
      at_ ≤ sz ∧ (Op.eqFields (n + d) vs.toArray us.toArray F).run P w = .ok (eqB (vs.drop at_) (us.drop at_)) w
  | [], at_, h, _ => by
    simp only [List.map_nil, intsGo] at h
    have h := Nat.eq_of_beq_eq_true h
    subst h
    have hlu := hp.length
    simp [Op.eqFields, List.drop_of_length_le (Nat.le_of_eq hl), List.drop_of_length_le (Nat.le_of_eq (hlu ▸ hl)), eqB]
  | f :: F, at_, h, hn => by
    simp only [List.map_cons, intsGo] at h
    split at h
    · rename_i j hj
      obtain ⟨h1, h⟩ := andB_elim h
      obtain ⟨h2, h3⟩ := andB_elim h
      have h1 := Nat.eq_of_beq_eq_true h1
      obtain ⟨hz, he⟩ := ih _ _ hj h2
      obtain ⟨h4, h5⟩ := intsT_go hT n ih d sz vs us hl hp w F (at_ + j.sz) h3 (fun f hf => hn f (.tail _ hf))
      have hlu := hp.length
      have p1 := run_part (hT _ _ hj) vs f.offset (by omega) hz w
      have p2 := run_part (hT _ _ hj) us f.offset (by omega) hz w
      have he' := he d ((vs.drop f.offset).take j.sz) ((us.drop f.offset).take j.sz) w (by simp; omega) ((hp.drop _).take _)
      refine ⟨by omega, ?_⟩
      have hs := eqB_split j.sz (hp.drop f.offset)
      simp only [Op.eqFields, hn f (.head _), ne_eq, not_false_eq_true, if_true, Sem.run_bind, p1, p2, Result.andThen_ok, he']
      rw [← h1, hs]
      cases hb : eqB ((vs.drop f.offset).take j.sz) ((us.drop f.offset).take j.sz) with
      | true => simp [h5, h1, List.drop_drop]
      | false => simp
    · cases h

theorem intsT_sound {P : Program} {Γ : List (TypeId × TI)} (hT : TOK P Γ) : ∀ (n : Nat) (t : TypeId) (i : TI), ti Γ t = some i → intsT Γ n t = true →
    (i.kind.agg = false → i.sz = 1) ∧ ∀ (d : Nat) (vs us : List Value) (w : World), vs.length = i.sz → Paired vs us →
      (Op.equalIn (n + d) t (wrapV i.kind.agg vs) (wrapV i.kind.agg us)).run P w = .ok (eqB vs us) w
  | 0, t, i, hi, h => by simp [intsT] at h
  | n + 1, t, i, hi, h => by
    unfold intsT at h
    rw [hi] at h
    simp only at h
    have hK := (hT t i hi).kind
    split at h
    · rename_i k hk
      rw [hk] at hK
      have hz := Nat.eq_of_beq_eq_true h
      refine ⟨fun _ => hz, fun d vs us w hl hp => ?_⟩
      rw [hz] at hl
      cases hp with
      | nil => simp at hl
      | cons k' m m' h =>
        cases h with
        | nil =>
          rw [show n + 1 + d = (n + d) + 1 by omega]
          simp only [hk, TK.agg, wrapV, Bool.false_eq_true, if_false, List.headD_cons, run_equalIn_int w _ t k' k m _ hK, eqB, Bool.and_true]
        | cons => simp at hl
    · rename_i fs hk
      obtain ⟨hc, hg⟩ := andB_elim h
      rw [hk] at hK
      obtain ⟨F, hF, hmap, _⟩ := hK
      obtain ⟨h1, h2, h3⟩ := (hT t i hi).cmp hc
      have hfo : P.fieldsOf t = F := by simp [Program.fieldsOf, hF]
      refine ⟨fun h => (by rw [hk] at h; cases h), fun d vs us w hl hp => ?_⟩
      rw [show n + 1 + d = (n + d) + 1 by omega]
      rw [← hmap] at hg
      have := (intsT_go hT n (intsT_sound hT n) d i.sz vs us hl hp w F.toList 0 hg (by rw [← hfo]; exact h3)).2
      simp only [hk, TK.agg, wrapV, if_true]
      rw [run_equalIn_struct w (n + d) t _ _ (by rw [hfo]; exact hF) h1, hfo]
      simpa using this
    · cases h

theorem toPr_elim {s : SV} {K : (p : Prop) → Decidable p → Prop} (h : toPr s K) : ∃ p i, K p i ∧ ∀ {S Pm : Nat → Prop} {ρ : Names} {w : World} {v : Value}, G S Pm ρ w s v → v = .bool (@decide p i) := by
  unfold toPr at h
  split at h
  · exact ⟨_, _, h, fun hg => hg.pr_inv⟩
  · exact ⟨_, _, h, fun hg => by rw [hg.val_inv]; rfl⟩
  · exact ⟨_, _, h, fun hg => by rw [hg.val_inv]; rfl⟩
  · exact h.elim

end Go.Gs
