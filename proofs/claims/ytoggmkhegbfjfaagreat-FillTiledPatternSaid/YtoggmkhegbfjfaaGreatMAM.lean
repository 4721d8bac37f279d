/- Natural numbers, the program's: quotient and remainder. -/
import Derived.Test.YtoggmkhegbfjfaaGreatMAL
import Derived.Test.YtoggmkhegbfjfaaGreatMAK
namespace Go.Gs
open Go.Proofs

/-- The divisor is shifted until its top digit is full. -/
theorem norm_shift {B s : Nat} (hB : B ≠ 0) (hs : s + nbits (dig (digs B) ((digs B).length - 1)) = 32) :
    (digs (B * 2 ^ s)).length = (digs B).length ∧ 2147483648 ≤ dig (digs (B * 2 ^ s)) ((digs B).length - 1) := by
  have hne : digs B ≠ [] := fun e => hB (digs_nil.1 e)
  have htop := nbits_top ((normd_digs B).resolve_left hne)
  rw [val_digs] at htop
  have hp : 0 < 2 ^ s := Nat.pow_pos (by decide)
  have hV0 : B * 2 ^ s ≠ 0 := Nat.mul_ne_zero hB (by omega)
  have h1 := nbits_lt B
  have h2 := nbits_ge hB
  have hpos := nbits_pos.2 hB
  have hl := digs_len_pos.2 hB
  have e : nbits (B * 2 ^ s) = nbits B + s := by
    refine nbits_unique ?_ hV0 ?_
    · rw [Nat.pow_add]; exact Nat.mul_lt_mul_of_pos_right h1 hp
    · rw [show nbits B + s - 1 = nbits B - 1 + s by omega, Nat.pow_add]; exact Nat.mul_le_mul_right _ h2
  have e32 : nbits (B * 2 ^ s) = 32 * (digs B).length := by omega
  have hle : (digs (B * 2 ^ s)).length ≤ (digs B).length := digs_len (by rw [pow32, ← e32]; exact nbits_lt _)
  have hge : (digs B).length ≤ (digs (B * 2 ^ s)).length := digs_mono (Nat.le_mul_of_pos_right _ hp)
  have hlen : (digs (B * 2 ^ s)).length = (digs B).length := by omega
  refine ⟨hlen, ?_⟩
  have hnV : digs (B * 2 ^ s) ≠ [] := fun e => hV0 (digs_nil.1 e)
  have hz := (normd_digs (B * 2 ^ s)).resolve_left hnV
  have ht2 := nbits_top hz
  rw [val_digs, hlen] at ht2
  rw [hlen] at hz
  have := nbits_ge hz
  rw [show nbits (dig (digs (B * 2 ^ s)) ((digs B).length - 1)) - 1 = 31 by omega] at this
  exact this

/-- One digit of the quotient. -/
theorem dm_round {u q : List Dig} {k n V U : Nat} (hk : k < q.length) (hlen : q.length + n = u.length) (hV : V < 4294967296 ^ n) (g3 : val (u.drop (k + 1)) < V)
    (g4 : U = V * (4294967296 ^ (k + 1) * val (q.drop (k + 1))) + val u) :
    ((u.drop k).take (n + 1)).length = n + 1 ∧ val ((u.drop k).take (n + 1)) < 4294967296 * V ∧ u = u.take k ++ ((u.drop k).take (n + 1) ++ u.drop (k + n + 1)) ∧
    ∀ w : List Dig, w = padDigs (n + 1) (val ((u.drop k).take (n + 1)) % V) → ∀ d : Dig, d.val = val ((u.drop k).take (n + 1)) / V →
      val ((u.take k ++ (w ++ u.drop (k + n + 1))).drop k) < V ∧ U = V * (4294967296 ^ k * val ((q.set k d).drop k)) + val (u.take k ++ (w ++ u.drop (k + n + 1))) := by
  have hwl : ((u.drop k).take (n + 1)).length = n + 1 := by rw [List.length_take, List.length_drop]; omega
  have hd := dig_lt u k
  have hdk := val_drop_cons u k
  have hlt : val (u.drop k) < 4294967296 * V := by omega
  have hsp := val_split (u.drop k) (n + 1)
  rw [List.drop_drop, show k + (n + 1) = k + n + 1 by omega] at hsp
  have hz : val (u.drop (k + n + 1)) = 0 := by
    apply Nat.eq_zero_of_not_pos
    intro h0
    have h1 : 4294967296 ^ (n + 1) ≤ 4294967296 ^ (n + 1) * val (u.drop (k + n + 1)) := Nat.le_mul_of_pos_right _ h0
    have h2 : 4294967296 ^ (n + 1) = 4294967296 ^ n * 4294967296 := Nat.pow_succ ..
    omega
  rw [hz, Nat.mul_zero, Nat.add_zero] at hsp
  have hu : u = u.take k ++ ((u.drop k).take (n + 1) ++ u.drop (k + n + 1)) := by
    have e1 : u.drop (k + n + 1) = (u.drop k).drop (n + 1) := by rw [List.drop_drop]; congr 1
    rw [e1, List.take_append_drop, List.take_append_drop]
  refine ⟨hwl, by omega, hu, ?_⟩
  intro w hw d hdv
  have hw0 : val w = val ((u.drop k).take (n + 1)) % V := by
    rw [hw]
    refine val_pad ?_
    refine Nat.lt_of_lt_of_le (Nat.mod_lt _ (by omega)) ?_
    rw [Nat.pow_succ]; omega
  have hwl2 : w.length = n + 1 := by rw [hw, padDigs_len]
  have htl : (u.take k).length = k := by rw [List.length_take]; omega
  have hm := Nat.mod_lt (val ((u.drop k).take (n + 1))) (show V > 0 by omega)
  have hdm := Nat.div_add_mod (val ((u.drop k).take (n + 1))) V
  have hu2 := val_split u k
  rw [hsp] at hu2
  constructor
  · rw [List.drop_append_of_le_length (by omega), List.drop_of_length_le (by omega), List.nil_append, val_append, hz]; omega
  · rw [val_append, val_append, hz, htl, drop_set_self hk, hw0, hdv, g4, hu2, Nat.pow_succ]
    generalize val ((u.drop k).take (n + 1)) = W at *
    generalize W / V = D at *
    generalize W % V = R at *
    generalize 4294967296 ^ k = p at *
    generalize val (q.drop (k + 1)) = Q at *
    generalize val (u.take k) = T at *
    clear hw hw0 hdv hsp hz hu hu2 g4 g3 hdk hwl hwl2 htl hlt hd hlen hk
    subst hdm
    grind

/-- A guess that is one too great is mended by one divisor. -/
theorem dm_mend {W V Bn g : Nat} (h : g = W / V ∨ g = W / V + 1) (hV : 0 < V) (hVB : V ≤ Bn) :
    (if W < g * V then W + Bn - g * V else W - g * V) = (if W < g * V then W % V + Bn - V else W % V) ∧ (W < g * V → g = W / V + 1) ∧ (¬ W < g * V → g = W / V) := by
  have hdm := Nat.div_add_mod W V
  have hm := Nat.mod_lt W hV
  rcases h with rfl | rfl
  · have : ¬ W < W / V * V := Nat.not_lt_of_le (Nat.div_mul_le_self W V)
    rw [if_neg this, if_neg this]
    refine ⟨?_, fun h => absurd h this, fun _ => rfl⟩
    rw [Nat.mul_comm]; omega
  · have e : (W / V + 1) * V = V * (W / V) + V := by rw [Nat.add_mul, Nat.one_mul, Nat.mul_comm]
    have : W < (W / V + 1) * V := by omega
    rw [if_pos this, if_pos this]
    refine ⟨?_, fun _ => rfl, fun h => absurd this h⟩
    omega

theorem dm_wrap {t p d c R : Nat} (hp : t < p) (hd : d < 4294967296) (hc : c ≤ 1) (e : t + p * (d + c) = R + p * 4294967296) : (d + c) % 4294967296 = 0 ∧ t = R := by
  have h : d + c = 4294967296 := by
    rcases Nat.lt_or_ge (d + c) 4294967296 with h | h
    · have h1 : p * (d + c + 1) ≤ p * 4294967296 := Nat.mul_le_mul_left _ h
      rw [Nat.mul_add, Nat.mul_one] at h1
      omega
    · omega
  rw [h] at e ⊢
  exact ⟨rfl, by omega⟩

theorem dm_add {t1 t2 t3 p c z y xq xr : Nat} (f5 : t1 + p * c = t2 + t3) (hd : 4294967296 * xq + xr = c + (z + y)) : t1 + p * xr + p * 4294967296 * xq = t2 + p * z + (t3 + p * y) := by grind

set_option maxRecDepth 100000 in
set_option maxHeartbeats 4000000 in
theorem n_divmod (a b : List Dig) (ha : a.length ≤ 400000000) (hb : b.length ≤ 400000000) (hb0 : val b ≠ 0) :
    CallsG Tryz.prog 236 [.sl dgE a, .sl dgE b] [] (.tup [.sl dgE (digs (val a / val b)), .sl dgE (digs (val a % val b)), i64 0]) [] := by
  refine calls_to tok mix Tryz.func236 rfl rfl rfl ?_
  refine CallV.to _ (n_shortS _ (by omega)) rfl ?_
  refine CallV.to _ (n_shortS _ (by omega)) rfl ?_
  have hla := digs_val_len a
  have hlb := digs_val_len b
  generalize val a = A at *
  generalize val b = B at *
  intro hl
  refine Br.mk (fun h => ?_) (fun h => ?_)
  · exact absurd (digs_nil.1 (List.length_eq_zero_iff.1 (by omega))) hb0
  refine CallV.to _ (n_cmp _ _ (by omega) (by omega)) rfl ?_
  rw [val_digs, val_digs]
  refine Br.mk (fun h2 => ?_) (fun h2 => ?_)
  · have hlt := cmpN_lt.1 h2
    refine CallV.to _ (n_clone _ (by omega)) rfl ?_
    rw [Nat.div_eq_of_lt hlt, Nat.mod_eq_of_lt hlt, digs_zero]
    exact LE_tup (.cons LE_nil0 (.cons .refl (.cons .refl .nil)))
  have hge : B ≤ A := Nat.le_of_not_lt fun h => h2 (cmpN_lt.2 h)
  intro hl2
  refine Br.mk (fun h3 => ?_) (fun h3 => ?_)
  · refine Ob.mk (by omega) ?_
    intro x hx
    have dx := dig_some hx
    have hxl := x.isLt
    have hx1 : digs B = [x] := by
      have hx : (digs B)[0]? = some x := hx
      obtain ⟨y, hy⟩ := List.length_eq_one_iff.1 (show (digs B).length = 1 by omega)
      rw [hy] at hx ⊢
      simp at hx
      rw [hx]
    have hB : x.val = B := by
      have := val_digs B
      rw [hx1, val_cons, val_nil] at this
      omega
    refine CallV.to _ (n_one (digs A) x.val (by omega) hxl (by omega)) rfl ?_
    rw [val_digs, hB]
    have hm := Nat.mod_lt A (show B > 0 by omega)
    refine Ar.fit (by omega) ?_
    refine CallV.to _ (n_fromU64 (A % B) (by omega)) rfl ?_
    exact .refl
  intro hl3
  refine Ar.fit (by omega) ?_
  refine Ob.mk (by omega) ?_
  intro x hx
  rw [show (((digs B).length : Int) - 1).toNat = (digs B).length - 1 by omega] at hx
  have dx := dig_some hx
  have hxl := x.isLt
  refine CallV.to _ (n_lz32 x.val hxl) rfl ?_
  have hn32 := nbits32 hxl
  obtain ⟨s, hs⟩ : ∃ s, 32 - nbits x.val = s := ⟨_, rfl⟩
  rw [hs]
  refine CallV.to _ (n_shlS _ s (by omega) (by omega)) rfl ?_
  refine CallV.to _ (n_shl _ s (by omega) (by omega)) rfl ?_
  rw [val_digs, val_digs]
  obtain ⟨hvl, hvt⟩ := norm_shift (B := B) (s := s) hb0 (by rw [dx]; omega)
  refine ⟨Dig, dgE, [0], rfl, Ob.mk (dOne 0) ?_⟩
  have hul : (digs (A * 2 ^ s)).length ≤ 400000001 := Nat.le_trans (digs_len (k := (digs A).length + 1) (by
    have h1 := digs_lt (n := A) (Nat.le_refl _)
    have h2 : 2 ^ s ≤ 4294967296 ^ 1 := by rw [pow32]; exact Nat.pow_le_pow_right (by decide) (by omega)
    rw [Nat.pow_add]
    exact Nat.lt_of_lt_of_le (Nat.mul_lt_mul_of_pos_right h1 (Nat.pow_pos (by decide))) (Nat.mul_le_mul_left _ h2))) (by omega)
  refine ⟨_, rfl, Ob.mk ⟨List.cons_ne_nil _ _, (by show ((_ : Int) + ((1 : Nat) : Int)) * ((4 : Nat) : Int) ≤ _; omega), (by show _ + 1 ≤ _; omega), by decide, fun _ _ => rfl, fun _ _ => rfl⟩ ?_⟩
  have hp0 : 0 < 2 ^ s := Nat.pow_pos (by decide)
  have hmA : (digs A).length ≤ (digs (A * 2 ^ s)).length := digs_mono (Nat.le_mul_of_pos_right _ hp0)
  have hmB : (digs (B * 2 ^ s)).length ≤ (digs (A * 2 ^ s)).length := digs_mono (Nat.mul_le_mul_right _ hge)
  have hV0 : B * 2 ^ s ≠ 0 := Nat.mul_ne_zero hb0 (by omega)
  have eq1 : A / B = A * 2 ^ s / (B * 2 ^ s) := (Nat.mul_div_mul_right _ _ hp0).symm
  have eq2 : A % B = A * 2 ^ s % (B * 2 ^ s) / 2 ^ s := by rw [Nat.mul_mod_mul_right, Nat.mul_div_cancel _ hp0]
  rw [eq1, eq2]
  have hlb2 : (digs B).length ≠ 0 ∧ (digs B).length ≠ 1 := ⟨by omega, by omega⟩
  rw [← hvl] at hvt
  clear eq1 eq2 hp0
  generalize A * 2 ^ s = U at *
  generalize B * 2 ^ s = V at *
  refine ⟨Unit, fun _ => ⟨[(0, .sl dgE (digs A)), (9, i64 s), (10, .sl dgE (digs V)), (11, .own 0)], [(0, dArr (digs U ++ [0]))], 1, 148, 0⟩, fun _ => True, fun _ => 0, (), trivial, ?_, ?_⟩
  · exact sub_of [(0, some 1)] rfl rfl rfl ⟨rfl, rfl, rfl, rfl, trivial⟩ ⟨rfl, trivial⟩
  rintro ⟨⟩ _
  intro hl4
  intro hl5
  have hll : (digs U ++ [0]).length = (digs U).length + 1 := by simp
  refine Br.mk (fun h4 => ?_) (fun _ => ?_)
  · omega
  intro hl6
  intro hl7
  refine Ar.fit (by omega) ?_
  obtain ⟨nq, hnq⟩ : ∃ nq : Nat, nq + (digs V).length = (digs U).length + 1 := ⟨(digs U).length + 1 - (digs V).length, by omega⟩
  refine ⟨Dig, dgE, 0, rfl, Ob.mk ⟨by decide, by omega, by omega, (by show _ * (4 : Int) ≤ _; omega), by omega⟩ ?_⟩
  intro hl8
  refine Ar.fit (by omega) ?_
  have hVn : V < 4294967296 ^ (digs V).length := digs_lt (Nat.le_refl _)
  refine ⟨Nat × List Dig × List Dig, fun ⟨j, q, u⟩ => ⟨[(13, i64 ((j : Int) - 1)), (12, .own 1), (11, .own 0), (10, .sl dgE (digs V)), (9, i64 s)], [(1, dArr q), (0, dArr u)], 2, 148, 0⟩,
    fun x => x.1 ≤ nq ∧ x.2.1.length = nq ∧ x.2.2.length = (digs U).length + 1 ∧ val (x.2.2.drop x.1) < V ∧ U = V * (4294967296 ^ x.1 * val (x.2.1.drop x.1)) + val x.2.2, fun x => x.1,
    (nq, List.replicate nq 0, digs U ++ [0]), ?_, ?_, ?_⟩
  · refine ⟨Nat.le_refl _, by simp, hll, ?_, ?_⟩
    · dsimp only
      have hz : val (digs U ++ [0]) = U := by rw [val_snoc, val_digs]; rfl
      rw [val_drop, hz]
      have h1 := digs_lt (n := U) (Nat.le_refl _)
      have h2 := digs_ge hV0
      refine Nat.lt_of_lt_of_le ?_ h2
      rw [Nat.div_lt_iff_lt_mul (pow_pos' _), ← Nat.pow_add]
      refine Nat.lt_of_lt_of_le h1 (Nat.pow_le_pow_right (by decide) (by omega))
    · dsimp only
      rw [val_drop_out (by simp), Nat.mul_zero, Nat.mul_zero, val_snoc, val_digs]; show U = 0 + (U + _ * 0); omega
  · exact sub_of [(0, some 0), (1, some 1)] rfl rfl rfl ⟨congrArg (fun n => some (i64 n)) (by simp only [List.length_replicate]; omega), rfl, rfl, rfl, rfl, trivial⟩ ⟨congrArg (fun n => some (dArr (List.replicate n 0))) (by omega), rfl, trivial⟩
  rintro ⟨j, q, u⟩ ⟨g1, g2, g3, g4, g5⟩
  dsimp only at g1 g2 g3 g4 g5
  refine Br.mk (fun k1 => ?_) (fun k1 => ?_)
  · obtain ⟨k, rfl⟩ : ∃ k, j = k + 1 := ⟨j - 1, by omega⟩
    rw [show (((k + 1 : Nat) : Int) - 1) = k by omega]
    obtain ⟨r1, r2, r3, r4⟩ := dm_round (k := k) (n := (digs V).length) (by omega) (by omega) hVn g4 g5
    intro hl9
    refine Ar.fit (by omega) ?_
    refine Ar.fit (by omega) ?_
    refine Sl.win (Ob.mk (by omega) ?_)
    have htl : (u.take k).length = k := by rw [List.length_take]; omega
    rw [show (((k + 1 : Nat) : Int) - 1 + ((digs V).length : Int) + 1 - (((k + 1 : Nat) : Int) - 1)) = (((u.drop k).take ((digs V).length + 1)).length : Nat) by rw [r1]; omega,
      show (((k + 1 : Nat) : Int) - 1) = ((u.take k).length : Nat) by omega]
    have hW : (u.drop ((u.take k).length : Int).toNat).take (((u.drop k).take ((digs V).length + 1)).length : Int).toNat = (u.drop k).take ((digs V).length + 1) := by
      rw [Int.toNat_natCast, Int.toNat_natCast, r1, htl]
    obtain ⟨post, hpost⟩ : ∃ post, u.drop (k + (digs V).length + 1) = post := ⟨_, rfl⟩
    obtain ⟨pre, hpre⟩ : ∃ pre, u.take k = pre := ⟨_, rfl⟩
    rw [hpost, hpre] at r3 r4
    rw [hpre] at htl hW
    rw [hpre]
    obtain ⟨hgc, _, _⟩ := guessN_ok (U := (u.drop k).take ((digs V).length + 1)) (V := digs V) r1 (by omega) hvt (by rw [val_digs]; exact r2)
    rw [val_digs] at hgc
    have cg := n_guess ((u.drop k).take ((digs V).length + 1)) (digs V) (by omega) r1 (by omega) hvt (by rw [val_digs]; exact r2)
    generalize guessN ((u.drop k).take ((digs V).length + 1)) (digs V) = g at hgc cg
    rw [← hW] at cg
    refine CallV.to _ cg rfl ?_
    clear cg hW
    generalize (u.drop k).take ((digs V).length + 1) = W at *
    have hD : val W / V < 4294967296 := by rw [Nat.div_lt_iff_lt_mul (by omega)]; exact r2
    have hpn : 4294967296 ^ ((digs V).length + 1) = 4294967296 ^ (digs V).length * 4294967296 := Nat.pow_succ ..
    obtain ⟨m1, m2, m3⟩ := dm_mend (Bn := 4294967296 ^ ((digs V).length + 1)) hgc (Nat.pos_of_ne_zero hV0) (by omega)
    have hmod := Nat.mod_lt (val W) (Nat.pos_of_ne_zero hV0)
    have ct := n_take pre W post (digs V) g r1 (by omega)
    rw [← r3, val_digs] at ct
    have htw : takeW W (digs V) g = padDigs ((digs V).length + 1) (if val W < g * V then val W % V + 4294967296 ^ ((digs V).length + 1) - V else val W % V) := by
      unfold takeW; rw [val_digs, r1, m1]
    rw [htw] at ct
    clear htw m1
    refine CallV.hand 0 _ _ _ rfl ct (dArr_flat _) (dArr_flat _) rfl rfl ?_
    clear ct hgc
    generalize val W / V = D at *
    generalize val W % V = R at *
    have hul2 : u.length = pre.length + (W.length + post.length) := by rw [r3]; simp
    refine Br.mk (fun k2 => ?_) (fun k2 => ?_)
    · have hg := m2 k2
      rw [if_pos k2]
      refine Ar.fit (by omega) ?_
      intro hl10
      obtain ⟨w0, hw0⟩ : ∃ w0, padDigs ((digs V).length + 1) (R + 4294967296 ^ ((digs V).length + 1) - V) = w0 := ⟨_, rfl⟩
      have hw0l : w0.length = (digs V).length + 1 := by rw [← hw0, padDigs_len]
      have hw0v : val w0 = R + 4294967296 ^ ((digs V).length + 1) - V := by rw [← hw0]; exact val_pad (by omega)
      rw [hw0]
      refine ⟨Nat × List Dig × Nat, fun ⟨i, w, c⟩ => ⟨[(105, i64 i), (104, i64 (digs V).length), (103, .sl dgE (digs V)), (16, u64 c), (15, u64 ((g : Int) - 1)), (14, .win 0 1 (pre.length : Nat) (W.length : Nat)), (13, i64 (pre.length : Nat)), (12, .own 1), (11, .own 0), (10, .sl dgE (digs V)), (9, i64 s)],
          [(1, dArr q), (0, dArr (pre ++ (w ++ post)))], 2, 148, 0⟩,
        fun x => x.1 ≤ (digs V).length ∧ x.2.1.length = (digs V).length + 1 ∧ x.2.2 ≤ 1 ∧ (∀ j, x.1 ≤ j → dig x.2.1 j = dig w0 j) ∧ val (x.2.1.take x.1) + 4294967296 ^ x.1 * x.2.2 = val (w0.take x.1) + val ((digs V).take x.1),
        fun x => (digs V).length - x.1, (0, w0, 0), ?_, ?_, ?_⟩
      · exact ⟨Nat.zero_le _, hw0l, Nat.zero_le _, fun _ _ => rfl, by simp [val]⟩
      · exact sub_of [(0, some 0), (1, some 1)] rfl rfl rfl ⟨rfl, rfl, rfl, rfl, rfl, rfl, congrArg (fun n => some (i64 n)) (by omega), rfl, rfl, rfl, rfl, trivial⟩ ⟨rfl, rfl, trivial⟩
      rintro ⟨i, w, c⟩ ⟨f1, f2, f3, f4, f5⟩
      dsimp only at f1 f2 f3 f4 f5
      have hlw : (pre ++ (w ++ post)).length = pre.length + (digs V).length + 1 + post.length := by simp [f2]; omega
      refine Br.mk (fun k3 => ?_) (fun k3 => ?_)
      · refine Ob.mk (by omega) ?_
        intro y hy
        have hy : (digs V)[i]? = some y := hy
        have dy := dig_some hy
        have hyl := y.isLt
        refine Ob.mk ⟨by omega, by omega, by omega⟩ ?_
        refine Ob.mk (by rw [hlw]; omega) ?_
        intro z hz
        have hz : w[i]? = some z := by rw [← get_mid (pre := pre) (post := post) (by omega), ← hz]; congr 1
        have dz := dig_some hz
        have hzl := z.isLt
        refine Ar.fit (by omega) ?_
        refine Ar.fit (by omega) ?_
        refine Ar.fit (by omega) ?_
        refine Ar.fit (by omega) ?_
        refine Ar.wrap ?_
        refine Ob.mk ⟨by omega, by omega, by omega⟩ ?_
        refine Ob.mk (by rw [hlw]; omega) ?_
        intro z' hz'
        refine ⟨dof (c + (z.val + y.val)), congrArg (fun n => [u32 n]) (by rw [dofW rfl]; simp), ?_⟩
        refine Ob.mk (by decide) ?_
        refine Ar.fit (by omega) ?_
        refine ⟨(i + 1, w.set i (dof (c + (z.val + y.val))), (c + (z.val + y.val)) / 4294967296), ⟨by dsimp only; omega, by simp [f2], by dsimp only; omega, fun j hj => ?_, ?_⟩,
          sub_of [(0, some 0), (1, some 1)] rfl rfl rfl ⟨rfl, rfl, rfl, congrArg (fun n => some (u64 n)) (by simp only [Int.reducePow]; omega), rfl, rfl, rfl, rfl, rfl, rfl, rfl, trivial⟩
            ⟨rfl, congrArg (fun l => some (dArr l)) (by rw [← set_mid (by omega)]; congr 1), trivial⟩, by dsimp only; omega⟩
        · dsimp only at hj ⊢
          rw [dig_set, if_neg (by omega)]; exact f4 j (by omega)
        · dsimp only
          rw [val_take_succ, val_take_succ, val_take_succ, Nat.pow_succ, dy, dig_set, if_pos ⟨rfl, by omega⟩, dof_val, ← f4 i (Nat.le_refl _), dz]
          have ht : (w.set i (dof (c + (z.val + y.val)))).take i = w.take i := by rw [List.take_set_of_le (by omega)]
          rw [ht]
          have hd := Nat.div_add_mod (c + (z.val + y.val)) 4294967296
          exact dm_add f5 hd
      · have hi : i = (digs V).length := by omega
        subst hi
        intro hl11
        refine Ob.mk ⟨by omega, by omega, by omega⟩ ?_
        refine Ob.mk (by rw [hlw]; omega) ?_
        intro z hz
        have hz : w[(digs V).length]? = some z := by rw [← get_mid (pre := pre) (post := post) (by omega), ← hz]; congr 1
        have dz := dig_some hz
        have hzl := z.isLt
        refine Ar.fit (by omega) ?_
        refine Ar.wrap ?_
        refine Ob.mk ⟨by omega, by omega, by omega⟩ ?_
        refine Ob.mk (by rw [hlw]; omega) ?_
        intro z' hz'
        refine ⟨dof (z.val + c), congrArg (fun n => [u32 n]) (by rw [dofW rfl]; simp), ?_⟩
        have hw2 : w.set (digs V).length (dof (z.val + c)) = padDigs ((digs V).length + 1) R := by
          rw [← pad_val (w.set _ _), List.length_set, f2]
          congr 1
          have e1 := val_split w0 (digs V).length
          have e3 := val_drop_cons w0 (digs V).length
          rw [val_drop_out (show w0.length ≤ (digs V).length + 1 by omega), Nat.mul_zero, Nat.add_zero] at e3
          rw [e3, hw0v, hpn, ← f4 _ (Nat.le_refl _), dz] at e1
          rw [val_take_all (Nat.le_refl (digs V).length), val_digs] at f5
          have g2 := val_split (w.set (digs V).length (dof (z.val + c))) (digs V).length
          have g3 := val_drop_cons (w.set (digs V).length (dof (z.val + c))) (digs V).length
          have g0 : val ((w.set (digs V).length (dof (z.val + c))).drop ((digs V).length + 1)) = 0 := val_drop_out (by rw [List.length_set]; omega)
          rw [g0, Nat.mul_zero, Nat.add_zero, dig_set, if_pos ⟨rfl, by omega⟩, dof_val] at g3
          rw [g3, List.take_set_of_le (Nat.le_refl _)] at g2
          rw [g2]
          obtain ⟨n1, n2⟩ := dm_wrap (R := R) (val_take_lt w (digs V).length) hzl f3 (by rw [Nat.mul_add]; omega)
          rw [n1, n2]; rfl
        have hset : (pre ++ (w ++ post)).set (pre.length + (digs V).length) (dof (z.val + c)) = pre ++ (padDigs ((digs V).length + 1) R ++ post) := by
          rw [set_mid (by omega), hw2]
        obtain ⟨e1, e2⟩ := r4 _ rfl (dof D) (by rw [dof_val, Nat.mod_eq_of_lt hD])
        refine Ar.fit (by omega) ?_
        refine Ob.mk (by omega) ?_
        refine Ob.mk (by omega) ?_
        intro z2 hz2
        refine ⟨dof D, congrArg (fun n => [u32 n]) (by rw [dof_val, Nat.mod_eq_of_lt hD]; omega), ?_⟩
        refine Ar.fit (by omega) ?_
        refine ⟨(k, q.set k (dof D), pre ++ (padDigs ((digs V).length + 1) R ++ post)), ⟨by dsimp only; omega, by simp [g2], by simp [padDigs_len]; omega, e1, e2⟩,
          sub_of [(0, some 0), (1, some 1)] rfl rfl rfl ⟨congrArg (fun n => some (i64 n)) (by omega), rfl, rfl, rfl, rfl, trivial⟩ ⟨congrArg (fun n => some (dArr (q.set n _))) (by omega), congrArg (fun l => some (dArr l)) (by rw [← hset]; congr 1), trivial⟩, by dsimp only; omega⟩
    · have hg := m3 k2
      rw [if_neg k2]
      obtain ⟨e1, e2⟩ := r4 _ rfl (dof D) (by rw [dof_val, Nat.mod_eq_of_lt hD])
      refine Ar.fit (by omega) ?_
      refine Ob.mk (by omega) ?_
      refine Ob.mk (by omega) ?_
      intro z2 hz2
      refine ⟨dof D, congrArg (fun n => [u32 n]) (by rw [dof_val, Nat.mod_eq_of_lt hD]; omega), ?_⟩
      refine Ar.fit (by omega) ?_
      refine ⟨(k, q.set k (dof D), pre ++ (padDigs ((digs V).length + 1) R ++ post)), ⟨by dsimp only; omega, by simp [g2], by simp [padDigs_len]; omega, e1, e2⟩,
        sub_of [(0, some 0), (1, some 1)] rfl rfl rfl ⟨congrArg (fun n => some (i64 n)) (by omega), rfl, rfl, rfl, rfl, trivial⟩ ⟨congrArg (fun n => some (dArr (q.set n _))) (by omega), rfl, trivial⟩, by dsimp only; omega⟩
  · have hj : j = 0 := by omega
    subst hj
    rw [List.drop_zero] at g4 g5
    rw [Nat.pow_zero, Nat.one_mul] at g5
    refine CallV.see 1 _ (n_shortS _ (by omega)) rfl rfl rfl ?_
    refine Ar.fit (by omega) ?_
    refine CallV.see 0 _ (n_shrS u s (by omega) (by omega)) rfl rfl rfl ?_
    have e1 : val q = U / V := by
      rw [g5, Nat.mul_add_div (by omega), Nat.div_eq_of_lt g4, Nat.add_zero]
    have e2 : val u = U % V := by
      rw [g5, Nat.mul_add_mod, Nat.mod_eq_of_lt g4]
    exact LE_tup (.cons (LE_sl (by rw [e1])) (.cons (LE_sl (by rw [e2])) (.cons .refl .nil)))

end Go.Gs
/- The root of a natural number, rounded down: the program's. -/
namespace Go.Gs
open Go.Proofs

/-- The root, rounded down. -/
def isq : Nat → Nat
  | 0 => 0
  | n + 1 => if (isq n + 1) * (isq n + 1) ≤ n + 1 then isq n + 1 else isq n
theorem isq_spec : ∀ n, isq n * isq n ≤ n ∧ n < (isq n + 1) * (isq n + 1)
  | 0 => by decide
  | n + 1 => by
    have h := isq_spec n
    rw [isq]
    split
    · rename_i h1
      refine ⟨h1, ?_⟩
      have : (isq n + 1 + 1) * (isq n + 1 + 1) = (isq n + 1) * (isq n + 1) + 2 * (isq n + 1) + 1 := by grind
      omega
    · exact ⟨by omega, by omega⟩
theorem isq_unique {n r : Nat} (h1 : r * r ≤ n) (h2 : n < (r + 1) * (r + 1)) : isq n = r := by
  have h := isq_spec n
  rcases Nat.lt_trichotomy (isq n) r with hlt | rfl | hgt
  · have : (isq n + 1) * (isq n + 1) ≤ r * r := Nat.mul_le_mul hlt hlt
    omega
  · rfl
  · have : (r + 1) * (r + 1) ≤ isq n * isq n := Nat.mul_le_mul hgt hgt
    omega
theorem isq_pos {n : Nat} (h : n ≠ 0) : 1 ≤ isq n := by
  have := isq_spec n
  rcases Nat.eq_zero_or_pos (isq n) with h0 | h0
  · rw [h0] at this; omega
  · exact h0
theorem isq_le {n x : Nat} (h : n < x * x) : isq n < x := by
  have := isq_spec n
  rcases Nat.lt_or_ge (isq n) x with h1 | h1
  · exact h1
  · have := Nat.mul_le_mul h1 h1; omega
theorem nbits_le {n k : Nat} (h : n < 2 ^ k) : nbits n ≤ k := by
  rcases Nat.eq_zero_or_pos n with h0 | h0
  · subst h0; rw [nbits_zero]; omega
  · have h1 := nbits_ge (n := n) (by omega)
    rcases Nat.lt_or_ge k (nbits n) with h2 | h2
    · have : 2 ^ k ≤ 2 ^ (nbits n - 1) := Nat.pow_le_pow_right (by decide) (by omega)
      omega
    · exact h2

theorem pow2_len {i k : Nat} (h : i < 32 * k) : (digs (2 ^ i)).length ≤ k := digs_len (by rw [pow32]; exact Nat.pow_lt_pow_right (by decide) h)

theorem digs_add_len {x y k : Nat} (hx : (digs x).length ≤ k) (hy : (digs y).length ≤ k) : (digs (x + y)).length ≤ k + 1 := digs_len (by
  have := digs_lt hx; have := digs_lt hy; rw [Nat.pow_succ]; omega)
theorem digs_mul_len {x y k l : Nat} (hx : (digs x).length ≤ k) (hy : (digs y).length ≤ l) : (digs (x * y)).length ≤ k + l := digs_len (by
  rw [Nat.pow_add]; exact Nat.mul_lt_mul'' (digs_lt hx) (digs_lt hy))

/-- A step of Newton's. -/
theorem newton_ge {a x r : Nat} (hx : x ≠ 0) (hr : r * r ≤ a) : r ≤ (x + a / x) / 2 := by
  rcases Nat.lt_or_ge ((x + a / x) / 2) r with h | h
  · exfalso
    have h1 : x + a / x + 1 ≤ 2 * r := by omega
    have h2 := Nat.div_add_mod a x
    have h3 := Nat.mod_lt a (by omega : 0 < x)
    generalize a / x = q at *
    have h4 : a < x * (q + 1) := by rw [Nat.mul_add]; omega
    have h5 : x * (q + 1) ≤ x * (2 * r - x) := Nat.mul_le_mul_left x (by omega)
    obtain ⟨d, hd⟩ : ∃ d, 2 * r = x + d := ⟨2 * r - x, by omega⟩
    rw [show 2 * r - x = d by omega] at h5
    have h6 : 4 * (x * d) ≤ (x + d) * (x + d) := by
      rcases Nat.le_total x d with h | h
      · obtain ⟨e, rfl⟩ := Nat.exists_eq_add_of_le h
        have : (x + (x + e)) * (x + (x + e)) = 4 * (x * (x + e)) + e * e := by grind
        omega
      · obtain ⟨e, rfl⟩ := Nat.exists_eq_add_of_le h
        have : (d + e + d) * (d + e + d) = 4 * ((d + e) * d) + e * e := by grind
        omega
    have h7 : (x + d) * (x + d) = 4 * (r * r) := by rw [← hd]; grind
    omega
  · exact h
theorem newton_end {a x : Nat} (_ : x ≠ 0) (hr : isq a ≤ x) (h : x ≤ (x + a / x) / 2) : x = isq a := by
  have h1 : x ≤ a / x := by omega
  have h2 : x * x ≤ a := Nat.le_trans (Nat.mul_le_mul_left x h1) (Nat.mul_div_le a x)
  rcases Nat.lt_or_ge (isq a) x with h3 | h3
  · have := isq_spec a
    have : (isq a + 1) * (isq a + 1) ≤ x * x := Nat.mul_le_mul h3 h3
    omega
  · omega

set_option maxRecDepth 100000 in
theorem n_sqrt (a : List Dig) (ha : a.length ≤ 200) : CallsG Tryz.prog 185 [.sl dgE a] [] (.sl dgE (digs (isq (val a)))) [] := by
  refine calls_to tok mix Tryz.func185 rfl rfl rfl ?_
  refine CallV.to _ (n_bitlen a (by omega)) rfl ?_
  have hnb : nbits (val a) ≤ 32 * a.length := nbits_le (by rw [← pow32]; exact val_lt a)
  have hlt := nbits_lt (val a)
  generalize hnv : nbits (val a) = nb at *
  refine Br.mk (fun h0 => ?_) (fun h0 => ?_)
  · have : val a = 0 := by
      have : nb = 0 := by omega
      subst this; simpa using hlt
    rw [this, show isq 0 = 0 from rfl, digs_zero]
    exact LE_nil0
  have hv0 : val a ≠ 0 := by
    intro h; rw [h, nbits_zero] at hnv; omega
  refine CallV.to _ (n_fromU64 1 (by decide)) rfl ?_
  refine CallV.to _ (n_bitlen a (by omega)) rfl ?_
  rw [hnv]
  refine Ar.fit (by omega) ?_
  refine Dv.pos ⟨by omega, by omega, by show _ ≤ (9223372036854775807 : Int); omega⟩ ?_
  have hpow : ∀ i : Nat, i ≤ 4096 → (digs (2 ^ i)).length ≤ 129 := fun i hi => pow2_len (by omega)
  refine ⟨Nat, fun i => ⟨[(16, i64 i), (15, i64 (((nb : Int) + 1) / 2)), (3, .sl dgE (digs (2 ^ i))), (0, .sl dgE a)], [], 0, 39, 0⟩, fun i => (i : Int) ≤ ((nb : Int) + 1) / 2, fun i => (((nb : Int) + 1) / 2 - i).toNat, 0, ?_, ?_, ?_⟩
  · show ((0 : Nat) : Int) ≤ _; omega
  · exact sub_of [] rfl rfl rfl ⟨rfl, rfl, rfl, rfl, trivial⟩ trivial
  rintro i hi
  refine Br.mk (fun h1 => ?_) (fun h1 => ?_)
  · have hl := hpow i (by omega)
    refine CallV.to _ (n_add (digs (2 ^ i)) (digs (2 ^ i)) (by omega) (by omega)) rfl ?_
    refine Ar.fit (by omega) ?_
    refine ⟨i + 1, (by show ((i + 1 : Nat) : Int) ≤ _; omega), sub_of [] rfl rfl rfl ⟨rfl, rfl, congrArg (fun n => some (SV.sl dgE (digs n))) (by rw [val_digs, Nat.pow_succ]; omega), rfl, trivial⟩ trivial, by dsimp only; omega⟩
  · have hi2 : 2 * i ≥ nb ∧ i ≤ 4096 := by omega
    have hbig : val a < 2 ^ i * 2 ^ i := by
      rw [← Nat.pow_add]
      exact Nat.lt_of_lt_of_le hlt (Nat.pow_le_pow_right (by decide) (by omega))
    have hone := isq_pos hv0
    have hsp := isq_spec (val a)
    refine ⟨Nat, fun x => ⟨[(3, .sl dgE (digs x)), (0, .sl dgE a)], [], 0, 39, 0⟩, fun x => isq (val a) ≤ x ∧ x ≤ 2 ^ i, fun x => x, 2 ^ i, ?_, ?_, ?_⟩
    · exact ⟨Nat.le_of_lt (isq_le hbig), Nat.le_refl _⟩
    · exact sub_of [] rfl rfl rfl ⟨rfl, rfl, trivial⟩ trivial
    rintro x ⟨h2, h3⟩
    have hxl : (digs x).length ≤ 129 := Nat.le_trans (digs_mono h3) (hpow i hi2.2)
    refine CallV.to _ (n_divmod a (digs x) (by omega) (by omega) (by rw [val_digs]; omega)) rfl ?_
    have hql : (digs (val a / val (digs x))).length ≤ 200 := Nat.le_trans (digs_mono (Nat.div_le_self _ _)) (Nat.le_trans (digs_val_len a) ha)
    refine CallV.to _ (n_add (digs x) (digs (val a / val (digs x))) (by omega) (by omega)) rfl ?_
    have hsl : (digs (val (digs x) + val (digs (val a / val (digs x))))).length ≤ 201 := digs_add_len (by rw [val_digs]; omega) (by rw [val_digs]; omega)
    refine CallV.to _ (n_shrS _ 1 (by omega) (by decide)) rfl ?_
    rw [val_digs, val_digs, val_digs, Nat.pow_one]
    have hy := newton_ge (a := val a) (x := x) (by omega) hsp.1
    have hyl : (digs ((x + val a / x) / 2)).length ≤ 201 := by
      rw [val_digs, val_digs] at hsl
      exact Nat.le_trans (digs_mono (Nat.div_le_self _ _)) hsl
    refine CallV.to _ (n_cmp (digs ((x + val a / x) / 2)) (digs x) (by omega) (by omega)) rfl ?_
    rw [val_digs, val_digs]
    refine Br.mk (fun h4 => ?_) (fun h4 => ?_)
    · have hge : x ≤ (x + val a / x) / 2 := by unfold cmpN at h4; split at h4 <;> (try split at h4) <;> omega
      exact LE_sl (by rw [newton_end (by omega) h2 hge])
    · have hlt2 : (x + val a / x) / 2 < x := by unfold cmpN at h4; split at h4 <;> (try split at h4) <;> omega
      exact ⟨(x + val a / x) / 2, ⟨hy, by omega⟩, sub_of [] rfl rfl rfl ⟨rfl, rfl, trivial⟩ trivial, hlt2⟩

end Go.Gs
/- The root of a natural number, rounded down: the other text's. -/
namespace Go.Gs
open Go.Proofs

set_option maxRecDepth 100000 in
theorem r1_sqrt (a : List Dig) (ha : a.length ≤ 200) : CallsG Tryz.prog 217 [.sl dgE a] [] (.sl dgE (digs (isq (val a)))) [] := by
  refine calls_to tok mix Tryz.func217 rfl rfl rfl ?_
  refine ⟨Dig, dgE, [], rfl, Ob.mk ⟨rfl, by decide, by decide, by decide, fun x hx => by cases hx⟩ ?_⟩
  refine CallV.to _ (r1_bitlen a (by omega)) rfl ?_
  have hnb : nbits (val a) ≤ 32 * a.length := nbits_le (by rw [← pow32]; exact val_lt a)
  have hlt := nbits_lt (val a)
  generalize hnv : nbits (val a) = nb at *
  refine Dv.pos ⟨by omega, by omega, by show _ ≤ (9223372036854775807 : Int); omega⟩ ?_
  have hdig : ∀ R : Nat, R * R ≤ val a → (digs R).length ≤ 200 := fun R h => by
    refine Nat.le_trans (digs_mono (Nat.le_trans ?_ h)) (Nat.le_trans (digs_val_len a) ha)
    rcases Nat.eq_zero_or_pos R with h0 | h0
    · subst h0; exact Nat.le_refl _
    · exact Nat.le_mul_of_pos_left R h0
  have hpow : ∀ i : Nat, i ≤ 4096 → (digs (2 ^ i)).length ≤ 129 := fun i hi => pow2_len (by omega)
  refine ⟨Nat × Nat, fun ⟨k, R⟩ => ⟨[(0, .sl dgE a), (3, .own 0), (4, i64 ((k : Int) - 1))], [(0, dArr (digs R))], 1, 27, 0⟩,
    fun q => q.1 ≤ 4097 ∧ q.2 * q.2 ≤ val a ∧ val a < (q.2 + 2 ^ q.1) * (q.2 + 2 ^ q.1), fun q => q.1, (nb / 2 + 1, 0), ?_, ?_, ?_⟩
  · refine ⟨by dsimp only; omega, Nat.zero_le _, ?_⟩
    dsimp only
    rw [Nat.zero_add, ← Nat.pow_add]
    exact Nat.lt_of_lt_of_le hlt (Nat.pow_le_pow_right (by decide) (by omega))
  · exact sub_of [(0, some 0)] rfl rfl rfl ⟨rfl, rfl, congrArg (fun n => some (i64 n)) (by omega), trivial⟩ ⟨congrArg (fun q => some (dArr q)) digs_zero.symm, trivial⟩
  rintro ⟨k, R⟩ ⟨h1, h2, h3⟩
  dsimp only at h1 h2 h3
  refine Br.mk (fun h4 => ?_) (fun h4 => ?_)
  · obtain ⟨i, rfl⟩ : ∃ i, k = i + 1 := ⟨k - 1, by omega⟩
    have hi : i ≤ 4096 := by omega
    have hl0 := hdig R h2
    have hp0 := hpow i hi
    have hS : (digs (R + 2 ^ i)).length ≤ 201 := digs_add_len (by omega) (by omega)
    have hQ : (digs ((R + 2 ^ i) * (R + 2 ^ i))).length ≤ 201 + 201 := digs_mul_len hS hS
    refine ⟨Dig, dgE, [⟨1, by decide⟩], rfl, Ob.mk (dOne _) ?_⟩
    have up := r1_up [(⟨1, by decide⟩ : Dig)] i (by show 1 ≤ _; decide) hi
    rw [show val [(⟨1, by decide⟩ : Dig)] * 2 ^ i = 2 ^ i by rw [val_cons, val_nil]; simp, show (i : Int) = ((i + 1 : Nat) : Int) - 1 by omega] at up
    refine CallV.fresh _ _ up rfl (dArr_flat _) (.inr (dArr_scalar _)) ?_
    have hadd := r1_add (digs R) (digs (2 ^ i)) (by omega) (by omega)
    rw [val_digs, val_digs] at hadd
    refine CallV.fresh _ _ hadd rfl (dArr_flat _) (.inr (dArr_scalar _)) ?_
    have hmul := r1_mul (digs (R + 2 ^ i)) (digs (R + 2 ^ i)) (by omega) (by omega)
    rw [val_digs] at hmul
    refine CallV.fresh _ _ hmul rfl (dArr_flat _) (.inr (dArr_scalar _)) ?_
    refine CallV.to _ (r1_cmp (digs ((R + 2 ^ i) * (R + 2 ^ i))) a (by omega) (by omega)) rfl ?_
    rw [val_digs]
    have hc := cmpN_gt (a := (R + 2 ^ i) * (R + 2 ^ i)) (b := val a)
    refine Br.mk (fun h5 => ?_) (fun h5 => ?_)
    · refine Ar.fit (by omega) ?_
      refine ⟨(i, R + 2 ^ i), ⟨by dsimp only; omega, by dsimp only; omega, ?_⟩, sub_of [(0, some 3)] rfl rfl rfl ⟨rfl, rfl, congrArg (fun n => some (i64 n)) (by omega), trivial⟩ ⟨rfl, trivial⟩, by dsimp only; omega⟩
      dsimp only
      rw [show R + 2 ^ i + 2 ^ i = R + 2 ^ (i + 1) by rw [Nat.pow_succ]; omega]
      exact h3
    · refine Ar.fit (by omega) ?_
      refine ⟨(i, R), ⟨by dsimp only; omega, h2, by dsimp only; omega⟩, sub_of [(0, some 0)] rfl rfl rfl ⟨rfl, rfl, congrArg (fun n => some (i64 n)) (by omega), trivial⟩ ⟨rfl, trivial⟩, by dsimp only; omega⟩
  · have hk : k = 0 := by omega
    subst hk
    exact LE_sl (by rw [isq_unique h2 h3])

end Go.Gs
/- Natural numbers, the program's: greatest common divisor; the quotient by zero. -/
namespace Go.Gs
open Go.Proofs

theorem n_divmod0 (a b : List Dig) (ha : a.length ≤ 400000000) (hb : b.length ≤ 400000000) (hb0 : val b = 0) :
    CallsG Tryz.prog 236 [.sl dgE a, .sl dgE b] [] (.tup [.sl dgE [], .sl dgE [], i64 9]) [] := by
  refine calls_to tok mix Tryz.func236 rfl rfl rfl ?_
  refine CallV.to _ (n_shortS _ (by omega)) rfl ?_
  refine CallV.to _ (n_shortS _ (by omega)) rfl ?_
  rw [hb0, digs_zero]
  intro hl
  refine Br.mk (fun h => ?_) (fun h => absurd rfl h)
  exact LE_tup (.cons LE_nil0 (.cons LE_nil0 (.cons .refl .nil)))

set_option maxRecDepth 100000 in
theorem n_gcd (a b : List Dig) (ha : a.length ≤ 400000000) (hb : b.length ≤ 400000000) :
    CallsG Tryz.prog 234 [.sl dgE a, .sl dgE b] [] (.sl dgE (digs (Nat.gcd (val a) (val b)))) [] := by
  refine calls_to tok mix Tryz.func234 rfl rfl rfl ?_
  refine CallV.to _ (n_normalize _ (by omega)) rfl ?_
  refine CallV.to _ (n_normalize _ (by omega)) rfl ?_
  have hla := digs_val_len a
  have hlb := digs_val_len b
  refine ⟨Nat × Nat, fun ⟨A, B⟩ => ⟨[(0, .sl dgE (digs A)), (1, .sl dgE (digs B))], [], 0, 25, 0⟩,
    fun x => (digs x.1).length ≤ 400000000 ∧ (digs x.2).length ≤ 400000000 ∧ Nat.gcd x.1 x.2 = Nat.gcd (val a) (val b), fun x => x.2, (val a, val b), ?_, ?_, ?_⟩
  · exact ⟨by dsimp only; omega, by dsimp only; omega, rfl⟩
  · exact sub_of [] rfl rfl rfl ⟨rfl, rfl, trivial⟩ trivial
  rintro ⟨A, B⟩ ⟨h1, h2, h3⟩
  dsimp only at h1 h2 h3
  intro hl
  refine Br.mk (fun k => ?_) (fun k => ?_)
  · have hB : B ≠ 0 := digs_len_pos.1 (by omega)
    refine CallV.to _ (n_divmod (digs A) (digs B) (by omega) (by omega) (by rw [val_digs]; exact hB)) rfl ?_
    rw [val_digs, val_digs]
    have hm := Nat.mod_lt A (Nat.pos_of_ne_zero hB)
    refine ⟨(B, A % B), ⟨h2, Nat.le_trans (digs_mono (Nat.le_of_lt hm)) h2, ?_⟩, sub_of [] rfl rfl rfl ⟨rfl, rfl, trivial⟩ trivial, hm⟩
    dsimp only
    rw [← h3, Nat.gcd_comm B, Nat.gcd_comm A B, Nat.gcd_rec B A]
  · have hB : B = 0 := digs_nil.1 (List.length_eq_zero_iff.1 (by omega))
    subst hB
    rw [Nat.gcd_zero_right] at h3
    exact LE_sl (by rw [h3])

end Go.Gs
/- Integers, the program's. -/
namespace Go.Gs
open Go.Proofs

theorem z_new (p : Prop) [i : Decidable p] (m : List Dig) (hm : m.length ≤ 1000000000) :
    CallsG Tryz.prog 168 [.pr p i, .sl dgE m] [] (.agg (biE (ofZ (if p then -(val m : Int) else val m)))) [] := by
  refine calls_to tok mix Tryz.func168 rfl rfl rfl ?_
  refine CallV.to _ (n_normalize m hm) rfl ?_
  have hd := digs_len_pos (n := val m)
  refine Br.mk (fun h => ?_) (fun h => ?_)
  · intro hl
    refine LE_agg (.cons (LE_pr ?_) (.cons (LE_sl ?_) .nil))
    · rw [ofZ_neg, if_pos h]; omega
    · rw [ofZ_mag, if_pos h]; congr 1; omega
  · refine LE_agg (.cons (LE_false ?_) (.cons (LE_sl ?_) .nil))
    · rw [ofZ_neg, if_neg h]; omega
    · rw [ofZ_mag, if_neg h]; congr 1
theorem z_newT (m : List Dig) (hm : m.length ≤ 1000000000) : CallsG Tryz.prog 168 [bl true, .sl dgE m] [] (.agg (biE (ofZ (-(val m : Int))))) [] := by
  have h := (z_new True m hm).args (.cons (LE_true trivial) LEs.refl)
  rwa [if_pos trivial] at h
theorem z_newF (m : List Dig) (hm : m.length ≤ 1000000000) : CallsG Tryz.prog 168 [bl false, .sl dgE m] [] (.agg (biE (ofZ (val m : Int)))) [] := by
  have h := (z_new False m hm).args (.cons (LE_false not_false) LEs.refl)
  rwa [if_neg not_false] at h
theorem z_newv (a : BI) (hm : a.mag.length ≤ 1000000000) :
    CallsG Tryz.prog 168 [pr (a.neg = true), .sl dgE a.mag] [] (.agg (biE (ofZ a.v))) [] := z_new (a.neg = true) a.mag hm

theorem z_fromint (n : Int) (hn : R64 n) : CallsG Tryz.prog 114 [i64 n] [] (.agg (biE (ofZ n))) [] := by
  refine calls_to tok mix Tryz.func114 rfl rfl rfl ?_
  refine Br.mk (fun h => ?_) (fun h => ?_)
  · refine Ar.wrap ?_
    refine Ar.wrap ?_
    have e : IntKind.u64.wrap (-IntKind.u64.wrap n) = ((n.natAbs : Nat) : Int) := by rw [wrap64, wrap64]; omega
    rw [e]
    refine CallV.to _ (n_fromU64 n.natAbs (by omega)) rfl ?_
    refine CallV.to _ (z_newT (digs n.natAbs) (by have := zlen_i64 hn; unfold zlen at this; omega)) rfl ?_
    rw [val_digs, show (-(n.natAbs : Int)) = n by omega]
    exact .refl
  · refine Ar.wrap ?_
    have e : IntKind.u64.wrap n = ((n.natAbs : Nat) : Int) := by rw [wrap64]; omega
    rw [e]
    refine CallV.to _ (n_fromU64 n.natAbs (by omega)) rfl ?_
    refine CallV.to _ (z_newF (digs n.natAbs) (by have := zlen_i64 hn; unfold zlen at this; omega)) rfl ?_
    rw [val_digs, show (n.natAbs : Int) = n by omega]
    exact .refl

theorem z_sign (a : BI) (ha : a.mag.length ≤ 900000000) : CallsG Tryz.prog 237 [.agg (biE a)] [] (i64 a.v.sign) [] := by
  refine calls_to tok mix Tryz.func237 rfl rfl rfl ?_
  refine CallV.to _ (n_bitlen a.mag ha) rfl ?_
  have h1 := nbits_pos (n := val a.mag)
  have h2 := a.v_eq
  refine Br.mk (fun h => ?_) (fun h => ?_)
  · have : a.v = 0 := by omega
    exact LE_int (by rw [this]; rfl)
  refine Br.mk (fun h3 => ?_) (fun h3 => ?_)
  · refine LE_int (Int.sign_eq_neg_one_of_neg ?_).symm
    rcases h2 with ⟨e1, e2⟩ | ⟨e1, e2⟩
    · omega
    · rw [e1] at h3; cases h3
  · refine LE_int (Int.sign_eq_one_of_pos ?_).symm
    rcases h2 with ⟨e1, e2⟩ | ⟨e1, e2⟩
    · exact absurd e1 h3
    · omega

theorem z_neg (a : BI) (ha : a.mag.length ≤ 1000000000) : CallsG Tryz.prog 192 [.agg (biE a)] [] (.agg (biE (ofZ (-a.v)))) [] := by
  refine calls_to tok mix Tryz.func192 rfl rfl rfl ?_
  refine CallV.to _ (z_new (¬ a.neg = true) a.mag ha) rfl ?_
  have : (if ¬ a.neg = true then -(val a.mag : Int) else (val a.mag : Int)) = -a.v := by
    rcases a.v_eq with ⟨h1, h2⟩ | ⟨h1, h2⟩ <;> simp [h1, h2]
  rw [this]
  exact .refl

theorem z_add (a b : BI) (ha : a.mag.length ≤ 800000000) (hb : b.mag.length ≤ 800000000) : CallsG Tryz.prog 172 [.agg (biE a), .agg (biE b)] [] (.agg (biE (ofZ (a.v + b.v)))) [] := by
  refine calls_to tok mix Tryz.func172 rfl rfl rfl ?_
  refine Br.mk (fun h => ?_) (fun h => ?_)
  · refine Dr.mk (by decide +kernel) ?_
    refine CallV.to _ (n_add a.mag b.mag (by omega) (by omega)) rfl ?_
    have hl := dadd_len ha hb
    refine CallV.to _ (z_new (a.neg = true) _ (by omega)) rfl ?_
    have : (if a.neg = true then -(val (digs (val a.mag + val b.mag)) : Int) else (val (digs (val a.mag + val b.mag)) : Int)) = a.v + b.v := by
      rw [val_digs]
      rcases a.v_eq with ⟨h1, h2⟩ | ⟨h1, h2⟩ <;> rcases b.v_eq with ⟨h3, h4⟩ | ⟨h3, h4⟩ <;> simp [h1, h3] at h <;> simp [h1, h2, h4] <;> omega
    rw [this]
    exact .refl
  · refine CallV.to _ (n_sub a.mag b.mag (by omega) (by omega)) rfl ?_
    have hl : (digs (val a.mag - val b.mag)).length ≤ 1000000000 := Nat.le_trans (digs_mono (Nat.sub_le _ _)) (Nat.le_trans (digs_val_len _) (by omega))
    have hl2 : (digs (val b.mag - val a.mag)).length ≤ 1000000000 := Nat.le_trans (digs_mono (Nat.sub_le _ _)) (Nat.le_trans (digs_val_len _) (by omega))
    refine Br.mk (fun h2 => ?_) (fun h2 => ?_)
    · refine CallV.to _ (z_new (a.neg = true) _ hl) rfl ?_
      have : (if a.neg = true then -(val (digs (val a.mag - val b.mag)) : Int) else (val (digs (val a.mag - val b.mag)) : Int)) = a.v + b.v := by
        rw [val_digs]
        rcases a.v_eq with ⟨h1, h2⟩ | ⟨h1, h2⟩ <;> rcases b.v_eq with ⟨h3, h4⟩ | ⟨h3, h4⟩ <;> simp [h1, h3] at h <;> simp [h1, h2, h4] <;> omega
      rw [this]
      exact .refl
    · refine CallV.to _ (n_sub b.mag a.mag (by omega) (by omega)) rfl ?_
      refine CallV.to _ (z_new (b.neg = true) _ hl2) rfl ?_
      have : (if b.neg = true then -(val (digs (val b.mag - val a.mag)) : Int) else (val (digs (val b.mag - val a.mag)) : Int)) = a.v + b.v := by
        rw [val_digs]
        rcases a.v_eq with ⟨h1, h2⟩ | ⟨h1, h2⟩ <;> rcases b.v_eq with ⟨h3, h4⟩ | ⟨h3, h4⟩ <;> simp [h1, h3] at h <;> simp [h3, h2, h4] <;> omega
      rw [this]
      exact .refl

theorem ofZ_len (z : Int) : (ofZ z).mag.length = zlen z := rfl
theorem z_sub (a b : BI) (ha : a.mag.length ≤ 800000000) (hb : b.mag.length ≤ 800000000) : CallsG Tryz.prog 243 [.agg (biE a), .agg (biE b)] [] (.agg (biE (ofZ (a.v - b.v)))) [] := by
  refine calls_to tok mix Tryz.func243 rfl rfl rfl ?_
  refine Dr.mk (by decide +kernel) ?_
  refine CallV.to _ (z_neg b (by omega)) rfl ?_
  have h1 := zlen_v b
  refine CallV.to _ (z_add a (ofZ (-b.v)) (by omega) (by rw [ofZ_len, zlen_neg]; omega)) rfl ?_
  rw [ofZ_v, ← Int.sub_eq_add_neg]
  exact .refl

theorem z_mul (a b : BI) (ha : a.mag.length ≤ 400000000) (hb : b.mag.length ≤ 400000000) : CallsG Tryz.prog 191 [.agg (biE a), .agg (biE b)] [] (.agg (biE (ofZ (a.v * b.v)))) [] := by
  refine calls_to tok mix Tryz.func191 rfl rfl rfl ?_
  refine Dr.mk (by decide +kernel) ?_
  refine CallV.to _ (n_mul a.mag b.mag ha hb) rfl ?_
  have hl : (digs (val a.mag * val b.mag)).length ≤ 1000000000 := by
    refine Nat.le_trans (digs_len (k := a.mag.length + b.mag.length) ?_) (by omega)
    rw [Nat.pow_add]; exact Nat.mul_lt_mul_of_lt_of_lt (val_lt _) (val_lt _)
  refine CallV.to _ (z_new (¬ (a.neg = true ↔ b.neg = true)) _ hl) rfl ?_
  rw [val_digs, v_mul]
  exact .refl

theorem z_bitlen (a : BI) (ha : a.mag.length ≤ 900000000) : CallsG Tryz.prog 240 [.agg (biE a)] [] (i64 (nbits a.v.natAbs)) [] := by
  refine calls_to tok mix Tryz.func240 rfl rfl rfl ?_
  refine CallV.to _ (n_bitlen a.mag ha) rfl ?_
  rw [← a.v_abs]
  exact .refl

end Go.Gs
/- Integers, the program's: quotient and remainder, rounded down; to an int. -/
namespace Go.Gs
open Go.Proofs

/-- The quotient, rounded down, of which only the digits are divided. -/
theorem zdiv_abs {a b : Int} (hb : 0 < b) : a / b = if a < 0 then -((a.natAbs / b.natAbs + (if a.natAbs % b.natAbs = 0 then 0 else 1) : Nat) : Int) else ((a.natAbs / b.natAbs : Nat) : Int) := by
  have hdm := Nat.div_add_mod a.natAbs b.natAbs
  have hm := Nat.mod_lt a.natAbs (show b.natAbs > 0 by omega)
  generalize a.natAbs / b.natAbs = q at *
  generalize a.natAbs % b.natAbs = r at *
  have e : (b : Int) * (q : Int) = ((b.natAbs * q : Nat) : Int) := by rw [Int.natCast_mul]; congr 1; omega
  by_cases h : a < 0
  · rw [if_pos h]
    by_cases h0 : r = 0
    · rw [if_pos h0, Nat.add_zero]
      exact ((Int.ediv_emod_unique hb).2 ⟨(by rw [Int.mul_neg, e]; omega : (0 : Int) + b * (-(q : Int)) = a), by omega, hb⟩).1
    · rw [if_neg h0]
      exact ((Int.ediv_emod_unique hb (r := b - r)).2 ⟨by rw [Int.mul_neg, Int.natCast_add, Int.mul_add, e]; omega, by omega, by omega⟩).1
  · rw [if_neg h]
    exact ((Int.ediv_emod_unique hb (r := r)).2 ⟨by rw [e]; omega, by omega, by omega⟩).1

theorem z_signed (p : Prop) [i : Decidable p] : CallsG Tryz.prog 290 [.pr p i] [] (.fn 305 [.loc 0 0]) [(0, .box 4 [.pr p i])] := by
  refine calls_own tok mix Tryz.func290 rfl rfl rfl ?_
  exact ⟨some 0, take_fn (.cons (.loc 0 0 rfl) .nil), rfl, rfl⟩
theorem z_signed1 (p : Prop) [i : Decidable p] (m : List Dig) (hm : m.length ≤ 1000000000) :
    CallsG Tryz.prog 305 [.sl dgE m, .ptr [.pr p i]] [] (.agg (biE (ofZ (if p then -(val m : Int) else val m)))) [] := by
  refine calls_to tok mix Tryz.func305 rfl rfl rfl ?_
  refine CallV.to _ (z_new p m hm) rfl ?_
  exact .refl

theorem z_divmod (a b : BI) (ha : a.mag.length ≤ 200000000) (hb : b.mag.length ≤ 200000000) (h0 : 0 < b.v) :
    CallsG Tryz.prog 245 [.agg (biE a), .agg (biE b)] [] (.tup [.agg (biE (ofZ (a.v / b.v))), .agg (biE (ofZ (a.v % b.v))), i64 0]) [] := by
  refine calls_to tok mix Tryz.func245 rfl rfl rfl ?_
  refine Dr.mk (by decide +kernel) ?_
  refine CallV.to _ (z_newv a (by omega)) rfl ?_
  refine CallV.to _ (z_newv b (by omega)) rfl ?_
  have la := zlen_v a
  have lb := zlen_v b
  refine CallV.to _ (n_divmod (digs a.v.natAbs) (digs b.v.natAbs) (by unfold zlen at la; omega) (by unfold zlen at lb; omega) (by rw [val_digs]; omega)) rfl ?_
  rw [val_digs, val_digs]
  refine Br.mk (fun h => absurd rfl h) (fun _ => ?_)
  have hza := ofZ_neg a.v
  have hzb := ofZ_neg b.v
  have hq := zdiv_abs (a := a.v) h0
  have hm := Int.emod_def a.v b.v
  have zq : zlen (a.v / b.v) ≤ zlen a.v := zlen_mono (by
    have := Int.natAbs_ediv_le_natAbs a.v b.v
    exact this)
  have zp := zlen_mul (a.v / b.v) b.v
  have neg1 : a.v < 0 → ¬ ((ofZ a.v).neg = true ↔ (ofZ b.v).neg = true) := fun h => by rw [hza, hzb]; omega
  have neg2 : ¬ a.v < 0 → ¬ ¬ ((ofZ a.v).neg = true ↔ (ofZ b.v).neg = true) := fun h => by rw [hza, hzb]; omega
  have q1 : (digs (a.v.natAbs / b.v.natAbs)).length ≤ 200000000 := Nat.le_trans (digs_mono (Nat.div_le_self _ _)) (by unfold zlen at la; omega)
  refine Br.mk (fun h1 => ?_) (fun h1 => ?_)
  · have hneg : a.v < 0 := Classical.byContradiction fun h => neg2 h h1
    intro hl
    refine Br.mk (fun h2 => ?_) (fun h2 => ?_)
    · have hr : a.v.natAbs % b.v.natAbs ≠ 0 := digs_len_pos.1 (by omega)
      refine CallV.to _ (n_fromU64 1 (by decide)) rfl ?_
      refine CallV.to _ (n_add _ _ (by omega) (by decide +kernel)) rfl ?_
      rw [val_digs, val_digs]
      rw [if_pos hneg, if_neg hr] at hq
      have ql := dadd_len (a := digs (a.v.natAbs / b.v.natAbs)) (b := digs 1) q1 (by decide +kernel)
      rw [val_digs, val_digs] at ql
      refine CallV.fresh _ _ (z_signed (¬ ((ofZ a.v).neg = true ↔ (ofZ b.v).neg = true))) rfl rfl (.inr rfl) ?_
      refine CallV.to _ (z_signed1 _ (digs (a.v.natAbs / b.v.natAbs + 1)) (by omega)) rfl ?_
      rw [val_digs, if_pos h1, ← hq]
      refine Dr.mk (by decide +kernel) ?_
      refine CallV.to _ (z_mul (ofZ (a.v / b.v)) (ofZ b.v) (by rw [ofZ_len]; omega) (by rw [ofZ_len]; omega)) rfl ?_
      refine CallV.to _ (z_sub (ofZ a.v) (ofZ ((ofZ (a.v / b.v)).v * (ofZ b.v).v)) (by rw [ofZ_len]; omega) (by rw [ofZ_len, ofZ_v, ofZ_v]; omega)) rfl ?_
      rw [ofZ_v, ofZ_v, ofZ_v, ofZ_v, Int.mul_comm (a.v / b.v), ← hm]
      exact .refl
    · have hr : a.v.natAbs % b.v.natAbs = 0 := digs_nil.1 (List.length_eq_zero_iff.1 (by omega))
      rw [if_pos hneg, if_pos hr, Nat.add_zero] at hq
      refine CallV.fresh _ _ (z_signed (¬ ((ofZ a.v).neg = true ↔ (ofZ b.v).neg = true))) rfl rfl (.inr rfl) ?_
      refine CallV.to _ (z_signed1 _ (digs (a.v.natAbs / b.v.natAbs)) (by omega)) rfl ?_
      rw [val_digs, if_pos h1, ← hq]
      refine Dr.mk (by decide +kernel) ?_
      refine CallV.to _ (z_mul (ofZ (a.v / b.v)) (ofZ b.v) (by rw [ofZ_len]; omega) (by rw [ofZ_len]; omega)) rfl ?_
      refine CallV.to _ (z_sub (ofZ a.v) (ofZ ((ofZ (a.v / b.v)).v * (ofZ b.v).v)) (by rw [ofZ_len]; omega) (by rw [ofZ_len, ofZ_v, ofZ_v]; omega)) rfl ?_
      rw [ofZ_v, ofZ_v, ofZ_v, ofZ_v, Int.mul_comm (a.v / b.v), ← hm]
      exact .refl
  · have hneg : ¬ a.v < 0 := fun h => h1 (neg1 h)
    rw [if_neg hneg] at hq
    refine CallV.fresh _ _ (z_signed (¬ ((ofZ a.v).neg = true ↔ (ofZ b.v).neg = true))) rfl rfl (.inr rfl) ?_
    refine CallV.to _ (z_signed1 _ (digs (a.v.natAbs / b.v.natAbs)) (by omega)) rfl ?_
    rw [val_digs, if_neg h1, ← hq]
    refine Dr.mk (by decide +kernel) ?_
    refine CallV.to _ (z_mul (ofZ (a.v / b.v)) (ofZ b.v) (by rw [ofZ_len]; omega) (by rw [ofZ_len]; omega)) rfl ?_
    refine CallV.to _ (z_sub (ofZ a.v) (ofZ ((ofZ (a.v / b.v)).v * (ofZ b.v).v)) (by rw [ofZ_len]; omega) (by rw [ofZ_len, ofZ_v, ofZ_v]; omega)) rfl ?_
    rw [ofZ_v, ofZ_v, ofZ_v, ofZ_v, Int.mul_comm (a.v / b.v), ← hm]
    exact .refl

end Go.Gs
/- Integers, the program's: to an int. -/
namespace Go.Gs
open Go.Proofs

set_option maxRecDepth 100000 in
theorem z_toint (a : BI) (ha : a.mag.length ≤ 1000000000) :
    CallsG Tryz.prog 289 [.agg (biE a)] [] (.tup [i64 (fitI a.v), pr (-9223372036854775808 ≤ a.v ∧ a.v ≤ 9223372036854775807)]) [] := by
  refine calls_to tok mix Tryz.func289 rfl rfl rfl ?_
  refine CallV.to _ (n_normalize a.mag ha) rfl ?_
  have hl0 := digs_val_len a.mag
  have hv := a.v_eq
  generalize hz : a.v = z at *
  have hv' : z = -(val a.mag : Int) ∨ z = (val a.mag : Int) := hv.imp And.right And.right
  have bad : ¬ (-9223372036854775808 ≤ z ∧ z ≤ 9223372036854775807) → LE (.tup [i64 0, bl false]) (.tup [i64 (fitI z), pr (-9223372036854775808 ≤ z ∧ z ≤ 9223372036854775807)]) := fun h =>
    LE_tup2 (LE_int (by rw [fitI, if_neg h])) (LE_false h)
  have good : ∀ n : Int, n = z → -9223372036854775808 ≤ z ∧ z ≤ 9223372036854775807 → LE (.tup [i64 n, bl true]) (.tup [i64 (fitI z), pr (-9223372036854775808 ≤ z ∧ z ≤ 9223372036854775807)]) := fun n hn h =>
    LE_tup2 (LE_int (by rw [fitI, if_pos h, hn])) (LE_true h)
  obtain ⟨m, hm⟩ : ∃ m, digs (val a.mag) = m := ⟨_, rfl⟩
  have hmv : val m = val a.mag := by rw [← hm, val_digs]
  have hbig : 2 < m.length → 18446744073709551616 ≤ val a.mag := fun h => by
    have h0 : val a.mag ≠ 0 := digs_len_pos.1 (by rw [hm]; omega)
    have := digs_ge h0
    rw [hm] at this
    exact Nat.le_trans (Nat.le_trans (by decide) (Nat.pow_le_pow_right (by decide) (show 2 ≤ m.length - 1 by omega))) this
  rw [hm]
  rw [hm] at hl0
  intro hl1
  refine Ar.fit (by omega) ?_
  refine ⟨Nat, fun j => ⟨[(6, i64 ((j : Int) - 1)), (5, u64 (val (m.drop j))), (4, .sl dgE m), (1, .loc 0 0)], [(0, .box 39 (biE a))], 1, 55, 0⟩,
    fun j => j ≤ m.length ∧ (j < m.length → m.length ≤ 2), fun j => j, m.length, ?_, ?_, ?_⟩
  · exact ⟨Nat.le_refl _, fun h => absurd h (Nat.lt_irrefl _)⟩
  · exact sub_of [(0, some 0)] rfl rfl rfl ⟨rfl, congrArg (fun n => some (u64 n)) (by rw [val_drop_out (Nat.le_refl _)]; rfl), rfl, rfl, trivial⟩ ⟨rfl, trivial⟩
  rintro j ⟨h1, h2⟩
  refine Br.mk (fun h3 => ?_) (fun h3 => ?_)
  · intro hl2
    refine Br.mk (fun h4 => ?_) (fun h4 => ?_)
    · have hd := val_drop_cons m (j - 1)
      rw [show j - 1 + 1 = j by omega] at hd
      have hdl : val (m.drop j) < 4294967296 := by
        have := val_lt (m.drop j)
        rw [List.length_drop] at this
        exact Nat.lt_of_lt_of_le this (Nat.le_trans (Nat.pow_le_pow_right (by decide) (show m.length - j ≤ 1 by omega)) (by decide))
      refine Ob.mk (by decide) ?_
      refine Ar.fit (by simp only [Int.reducePow]; omega) ?_
      refine Ob.mk (by omega) ?_
      intro x hx
      rw [show ((j : Int) - 1).toNat = j - 1 by omega] at hx
      have dx := dig_some hx
      have hxl := x.isLt
      refine Ar.fit (by omega) ?_
      refine ⟨_, (or_shift (x := val (m.drop j)) (y := x.val) hdl hxl rfl).symm, ?_⟩
      refine Ar.fit (by omega) ?_
      exact ⟨j - 1, ⟨by omega, fun _ => by omega⟩, sub_of [(0, some 0)] rfl rfl rfl ⟨congrArg (fun n => some (i64 n)) (by omega), congrArg (fun n => some (u64 n)) (by rw [hd, dx]; omega), rfl, rfl, trivial⟩ ⟨rfl, trivial⟩, by dsimp only; omega⟩
    · intro hl3
      have := hbig (by omega)
      refine Br.mk (fun _ => ?_) (fun h => absurd h (by omega))
      exact bad (by omega)
  · have hj : j = 0 := by omega
    subst hj
    have hd0 : val (m.drop 0) = val a.mag := by rw [List.drop_zero, hmv]
    intro hl3
    have hv2 : ¬ 2 < m.length → val a.mag < 18446744073709551616 := fun h => by
      have := val_lt m
      rw [hmv] at this
      exact Nat.lt_of_lt_of_le this (Nat.le_trans (Nat.pow_le_pow_right (by decide) (show m.length ≤ 2 by omega)) (by decide))
    refine Br.mk (fun h => ?_) (fun h => ?_)
    · have := hbig (by omega)
      exact bad (by omega)
    have hs := hv2 (by omega)
    have negz : a.neg = true → z = -(val a.mag : Int) := fun h => hv.elim And.right fun g => by rw [h] at g; cases g.1
    have posz : ¬ a.neg = true → z = (val a.mag : Int) := fun h => hv.elim (fun g => absurd g.1 h) And.right
    have hneg : a.neg = true → val a.mag ≤ 9223372036854775808 → IntKind.i64.wrap (IntKind.u64.wrap (-(val (m.drop 0) : Int))) = z := fun h hle => by
      have := negz h
      rw [hd0, wrap64]
      show IntKind.i64.wrap _ = _
      simp only [IntKind.wrap, IntKind.bits, IntKind.signed]
      simp
      omega
    refine Br.mk (fun g1 => bad (by omega)) (fun g1 => ?_)
    refine Br.mk (fun g2 => ?_) (fun g2 => ?_)
    · refine Br.mk (fun g3 => bad ?_) (fun g3 => ?_)
      · have := posz g3; omega
      have hn : a.neg = true := Classical.byContradiction g3
      have := negz hn
      refine Br.mk (fun _ => ?_) (fun g4 => absurd hn g4)
      refine Ar.wrap ?_
      refine Ar.wrap ?_
      exact good _ (hneg hn (by omega)) (by omega)
    · refine Br.mk (fun g4 => ?_) (fun g4 => ?_)
      · have := negz g4
        refine Ar.wrap ?_
        refine Ar.wrap ?_
        exact good _ (hneg g4 (by omega)) (by omega)
      · have := posz g4
        refine Ar.fit (by omega) ?_
        exact good _ (by omega) (by omega)

end Go.Gs
/- Rationals as two integers. -/
namespace Go.Gs

structure BR where
  num : BI
  den : BI
  deriving DecidableEq
/-- What it stands for (nothing over zero is zero). -/
def BR.v (a : BR) : Rat := Rat.divInt a.num.v a.den.v
/-- The number in lowest terms. -/
def ofQ (q : Rat) : BR := ⟨ofZ q.num, ofZ q.den⟩
theorem ofQ_v (q : Rat) : (ofQ q).v = q := by unfold BR.v ofQ; rw [ofZ_v, ofZ_v, Rat.num_divInt_den]
def BR.len (a : BR) : Nat := max a.num.mag.length a.den.mag.length
def qlen (q : Rat) : Nat := max (zlen q.num) (zlen q.den)
theorem ofQ_len (q : Rat) : (ofQ q).len = qlen q := rfl

theorem divInt_num {n d : Int} (hd : d ≠ 0) : (if n.sign * d.sign < 0 then -((n.natAbs / Nat.gcd n.natAbs d.natAbs : Nat) : Int) else ((n.natAbs / Nat.gcd n.natAbs d.natAbs : Nat) : Int)) = (Rat.divInt n d).num := by
  have hg0 : 0 < Nat.gcd n.natAbs d.natAbs := Nat.gcd_pos_of_pos_right _ (by omega)
  rw [Rat.num_divInt, show d.gcd n = Nat.gcd n.natAbs d.natAbs from Nat.gcd_comm _ _]
  obtain ⟨k, hk⟩ : ((Nat.gcd n.natAbs d.natAbs : Nat) : Int) ∣ n := Int.ofNat_dvd_left.2 (Nat.gcd_dvd_left _ _)
  generalize Nat.gcd n.natAbs d.natAbs = g at *
  have e1 : n.natAbs / g = k.natAbs := by rw [hk, Int.natAbs_mul, Int.natAbs_natCast, Nat.mul_div_cancel_left _ hg0]
  have e2 : d.sign * n / (g : Int) = d.sign * k := by
    rw [hk, ← Int.mul_assoc, Int.mul_comm d.sign, Int.mul_assoc, Int.mul_ediv_cancel_left _ (by omega)]
  have e3 : n.sign = k.sign := by rw [hk, Int.sign_mul, Int.sign_eq_one_of_pos (by omega), Int.one_mul]
  rw [e1, e2, e3]
  rcases Int.lt_trichotomy d 0 with h | h | h
  · rw [Int.sign_eq_neg_one_of_neg h]
    rcases Int.lt_trichotomy k 0 with h' | h' | h'
    · rw [Int.sign_eq_neg_one_of_neg h', if_neg (by decide)]; omega
    · subst h'; rw [if_neg (by decide)]; rfl
    · rw [Int.sign_eq_one_of_pos h', if_pos (by decide)]; omega
  · exact absurd h hd
  · rw [Int.sign_eq_one_of_pos h]
    rcases Int.lt_trichotomy k 0 with h' | h' | h'
    · rw [Int.sign_eq_neg_one_of_neg h', if_pos (by decide)]; omega
    · subst h'; rw [if_neg (by decide)]; rfl
    · rw [Int.sign_eq_one_of_pos h', if_neg (by decide)]; omega
theorem divInt_den {n d : Int} (hd : d ≠ 0) : (Rat.divInt n d).den = d.natAbs / Nat.gcd n.natAbs d.natAbs := by
  rw [Rat.den_divInt, if_neg hd, show d.gcd n = Nat.gcd n.natAbs d.natAbs from Nat.gcd_comm _ _]
theorem qlen_divInt {n d : Int} (hd : d ≠ 0) : qlen (Rat.divInt n d) ≤ max (zlen n) (zlen d) := by
  have h1 : zlen (Rat.divInt n d).num ≤ zlen n := zlen_mono (by
    rw [← divInt_num hd]
    have := Nat.div_le_self n.natAbs (Nat.gcd n.natAbs d.natAbs)
    generalize n.natAbs / Nat.gcd n.natAbs d.natAbs = x at *
    split <;> omega)
  have h2 : zlen (Rat.divInt n d).den ≤ zlen d := zlen_mono (by
    rw [divInt_den hd]
    have := Nat.div_le_self d.natAbs (Nat.gcd n.natAbs d.natAbs)
    generalize d.natAbs / Nat.gcd n.natAbs d.natAbs = x at *
    omega)
  unfold qlen; omega
theorem qlen_num (q : Rat) : zlen q.num ≤ qlen q := Nat.le_max_left _ _
theorem qlen_den (q : Rat) : zlen q.den ≤ qlen q := Nat.le_max_right _ _
theorem qlen_v (a : BR) : qlen a.v ≤ max a.len 1 := by
  by_cases h : a.den.v = 0
  · have : a.v = 0 := by unfold BR.v; rw [h, Rat.divInt_zero]
    rw [this]
    have : qlen 0 ≤ 1 := by decide +kernel
    omega
  · have := qlen_divInt (n := a.num.v) h
    have h1 := zlen_v a.num
    have h2 := zlen_v a.den
    unfold BR.len BR.v; omega
theorem den_ne (q : Rat) : (q.den : Int) ≠ 0 := by have := q.den_nz; omega
theorem q_add_eq (x y : Rat) : Rat.divInt (x.num * y.den + y.num * x.den) (x.den * y.den) = x + y := by
  have := Rat.divInt_add_divInt x.num y.num (den_ne x) (den_ne y)
  rw [Rat.num_divInt_den, Rat.num_divInt_den] at this
  exact this.symm
theorem q_mul_eq (x y : Rat) : Rat.divInt (x.num * y.num) (x.den * y.den) = x * y := by
  have := Rat.divInt_mul_divInt x.num y.num (d₁ := x.den) (d₂ := y.den)
  rw [Rat.num_divInt_den, Rat.num_divInt_den] at this
  exact this.symm
theorem q_sub_eq (x y : Rat) : Rat.divInt (x.num * y.den - y.num * x.den) (x.den * y.den) = x - y := by
  have := Rat.divInt_add_divInt x.num (-y.num) (den_ne x) (den_ne y)
  rw [Rat.num_divInt_den, ← Rat.neg_divInt, Rat.num_divInt_den, Int.neg_mul, ← Int.sub_eq_add_neg] at this
  rw [← this, Rat.sub_eq_add_neg]
theorem den_mul_ne (x y : Rat) : (x.den : Int) * (y.den : Int) ≠ 0 := Int.mul_ne_zero (den_ne x) (den_ne y)
theorem qlen_add (x y : Rat) : qlen (x + y) ≤ qlen x + qlen y + 1 := by
  rw [← q_add_eq]
  have h := qlen_divInt (n := x.num * y.den + y.num * x.den) (den_mul_ne x y)
  have h1 := zlen_add (x.num * y.den) (y.num * x.den)
  have h2 := zlen_mul x.num y.den
  have h3 := zlen_mul y.num x.den
  have h4 := zlen_mul x.den y.den
  have a1 := qlen_num x
  have a2 := qlen_num y
  have a3 := qlen_den x
  have a4 := qlen_den y
  omega
theorem qlen_mul (x y : Rat) : qlen (x * y) ≤ qlen x + qlen y := by
  rw [← q_mul_eq]
  have h := qlen_divInt (n := x.num * y.num) (den_mul_ne x y)
  have h2 := zlen_mul x.num y.num
  have h4 := zlen_mul x.den y.den
  have a1 := qlen_num x
  have a2 := qlen_num y
  have a3 := qlen_den x
  have a4 := qlen_den y
  omega
theorem qlen_int (z : Int) : qlen z ≤ max (zlen z) 1 := by
  unfold qlen
  rw [Rat.num_intCast, Rat.den_intCast]
  have : zlen ((1 : Nat) : Int) = 1 := by decide +kernel
  omega

end Go.Gs
/- Rationals, the program's. -/
namespace Go.Gs
open Go.Proofs

def brE (a : BR) : List SV := biE a.num ++ biE a.den

theorem q_lowest1 (a : BI) (g : List Dig) (ha : a.mag.length ≤ 400000000) (hg : g.length ≤ 400000000) (h0 : val g ≠ 0) :
    CallsG Tryz.prog 235 [.agg (biE a), .ptr [.sl dgE g]] [] (.sl dgE (digs (val a.mag / val g))) [] := by
  refine calls_to tok mix Tryz.func235 rfl rfl rfl ?_
  refine CallV.to _ (n_divmod a.mag g ha hg h0) rfl ?_
  exact .refl

theorem q_lowest (n d : BI) (hn : n.mag.length ≤ 400000000) (hd : d.mag.length ≤ 400000000) (h0 : d.v ≠ 0) :
    CallsG Tryz.prog 171 [.agg (biE n), .agg (biE d)] [] (.agg (brE (ofQ (Rat.divInt n.v d.v)))) [] := by
  refine calls_to tok mix Tryz.func171 rfl rfl rfl ?_
  refine CallV.to _ (n_gcd n.mag d.mag hn hd) rfl ?_
  have e1 := divInt_num (n := n.v) h0
  have e2 := divInt_den (n := n.v) h0
  rw [n.v_abs, d.v_abs] at e1 e2
  have hdz : val d.mag ≠ 0 := by rw [← d.v_abs]; omega
  have hg0 : 0 < Nat.gcd (val n.mag) (val d.mag) := Nat.gcd_pos_of_pos_right _ (by omega)
  have hgl : (digs (Nat.gcd (val n.mag) (val d.mag))).length ≤ 400000000 := by
    refine Nat.le_trans (digs_mono (Nat.gcd_le_right _ (by omega))) (Nat.le_trans (digs_val_len _) hd)
  have l1 : (digs (val n.mag / Nat.gcd (val n.mag) (val d.mag))).length ≤ 1000000000 := Nat.le_trans (digs_mono (Nat.div_le_self _ _)) (Nat.le_trans (digs_val_len _) (by omega))
  have l2 : (digs (val d.mag / Nat.gcd (val n.mag) (val d.mag))).length ≤ 1000000000 := Nat.le_trans (digs_mono (Nat.div_le_self _ _)) (Nat.le_trans (digs_val_len _) (by omega))
  generalize Nat.gcd (val n.mag) (val d.mag) = g at *
  have s1 : -1 ≤ n.v.sign * d.v.sign ∧ n.v.sign * d.v.sign ≤ 1 := by
    rcases Int.lt_trichotomy n.v 0 with h | h | h <;> rcases Int.lt_trichotomy d.v 0 with h' | h' | h' <;>
      simp [Int.sign_eq_neg_one_of_neg, Int.sign_eq_one_of_pos, h, h']
  refine Dr.mk (by decide +kernel) ?_
  refine CallV.to _ (z_sign n (by omega)) rfl ?_
  refine CallV.to _ (z_sign d (by omega)) rfl ?_
  refine Ar.fit (by omega) ?_
  refine CallV.to _ (q_lowest1 n (digs g) hn hgl (by rw [val_digs]; omega)) rfl ?_
  rw [val_digs]
  refine CallV.to _ (z_new (n.v.sign * d.v.sign < 0) _ l1) rfl ?_
  refine CallV.to _ (q_lowest1 d (digs g) hd hgl (by rw [val_digs]; omega)) rfl ?_
  refine CallV.to _ (z_newF _ (by rw [val_digs]; exact l2)) rfl ?_
  rw [val_digs, val_digs, val_digs, e1, ← e2]
  exact .refl

end Go.Gs
/- Rationals, the program's: arithmetic. -/
namespace Go.Gs
open Go.Proofs

theorem q_new (n d : BI) (hn : n.mag.length ≤ 400000000) (hd : d.mag.length ≤ 400000000) (h0 : d.v ≠ 0) :
    CallsG Tryz.prog 190 [.agg (biE n), .agg (biE d)] [] (.tup [.agg (brE (ofQ (Rat.divInt n.v d.v))), i64 0]) [] := by
  refine calls_to tok mix Tryz.func190 rfl rfl rfl ?_
  refine CallV.to _ (z_sign d (by omega)) rfl ?_
  refine Br.mk (fun h => absurd (Int.sign_eq_zero_iff_zero.1 h) h0) (fun _ => ?_)
  refine CallV.to _ (q_lowest n d hn hd h0) rfl ?_
  exact LE_tup2 .refl .refl
theorem q_new0 (n d : BI) (hd : d.mag.length ≤ 400000000) (h0 : d.v = 0) :
    CallsG Tryz.prog 190 [.agg (biE n), .agg (biE d)] [] (.tup [.agg [bl false, .sl dgE [], bl false, .sl dgE []], i64 9]) [] := by
  refine calls_to tok mix Tryz.func190 rfl rfl rfl ?_
  refine CallV.to _ (z_sign d (by omega)) rfl ?_
  rw [h0]
  refine Br.mk (fun _ => ?_) (fun h => absurd rfl h)
  exact LE_tup2 (LE_agg (.cons .refl (.cons LE_nil0 (.cons .refl (.cons LE_nil0 .nil))))) .refl

theorem q_fromint (n : Int) (hn : R64 n) : CallsG Tryz.prog 84 [i64 n] [] (.agg (brE (ofQ (n : Rat)))) [] := by
  refine calls_to tok mix Tryz.func84 rfl rfl rfl ?_
  refine CallV.to _ (z_fromint n hn) rfl ?_
  refine CallV.to _ (z_fromint 1 (by decide)) rfl ?_
  have e : ofQ (n : Rat) = ⟨ofZ n, ofZ 1⟩ := by unfold ofQ; rw [Rat.num_intCast, Rat.den_intCast]; rfl
  rw [e]
  exact .refl

theorem q_fromints (n d : Int) (hn : R64 n) (hd : R64 d) (h0 : d ≠ 0) : CallsG Tryz.prog 340 [i64 n, i64 d] [] (.tup [.agg (brE (ofQ (Rat.divInt n d))), i64 0]) [] := by
  refine calls_to tok mix Tryz.func340 rfl rfl rfl ?_
  have l1 := zlen_i64 hn
  have l2 := zlen_i64 hd
  refine CallV.to _ (z_fromint n hn) rfl ?_
  refine CallV.to _ (z_fromint d hd) rfl ?_
  refine CallV.to _ (q_new (ofZ n) (ofZ d) (by rw [ofZ_len]; omega) (by rw [ofZ_len]; omega) (by rw [ofZ_v]; exact h0)) rfl ?_
  rw [ofZ_v, ofZ_v]
  exact LE_tup2 .refl .refl

theorem q_normalize (a : BR) (ha : a.len ≤ 400000000) : CallsG Tryz.prog 189 [.agg (brE a)] [] (.agg (brE (ofQ a.v))) [] := by
  have h1 : a.num.mag.length ≤ a.len := Nat.le_max_left _ _
  have h2 : a.den.mag.length ≤ a.len := Nat.le_max_right _ _
  refine calls_to tok mix Tryz.func189 rfl rfl rfl ?_
  by_cases h : a.den.v = 0
  · refine CallV.to _ (q_new0 a.num a.den (by omega) h) rfl ?_
    refine Br.mk (fun _ => ?_) (fun h => absurd (by decide) h)
    refine CallV.to _ (q_fromint 0 (by decide)) rfl ?_
    have e : a.v = ((0 : Int) : Rat) := by unfold BR.v; rw [h, Rat.divInt_zero]; rfl
    rw [e]
    exact .refl
  · refine CallV.to _ (q_new a.num a.den (by omega) (by omega) h) rfl ?_
    refine Br.mk (fun h => absurd rfl h) (fun _ => ?_)
    exact .refl

theorem ofQ_l (q : Rat) : (ofQ q).num.mag.length ≤ qlen q ∧ (ofQ q).den.mag.length ≤ qlen q := ⟨qlen_num q, qlen_den q⟩
theorem ofQ_num (q : Rat) : (ofQ q).num.v = q.num := ofZ_v _
theorem ofQ_den (q : Rat) : (ofQ q).den.v = q.den := ofZ_v _

theorem q_cross (a b : BR) (ha : a.len ≤ 100000000) (hb : b.len ≤ 100000000) : CallsG Tryz.prog 170 [.agg (brE a), .agg (brE b)] []
    (.tup [.agg (biE (ofZ (a.v.num * b.v.den))), .agg (biE (ofZ (b.v.num * a.v.den))), .agg (biE (ofZ (a.v.den * b.v.den)))]) [] := by
  have h1 := qlen_v a
  have h2 := qlen_v b
  have h3 := ofQ_l a.v
  have h4 := ofQ_l b.v
  refine calls_to tok mix Tryz.func170 rfl rfl rfl ?_
  refine Dr.mk (by decide +kernel) ?_
  refine CallV.to _ (q_normalize a (by omega)) rfl ?_
  refine CallV.to _ (q_normalize b (by omega)) rfl ?_
  refine Dr.mk (by decide +kernel) ?_
  refine CallV.to _ (z_mul (ofQ a.v).num (ofQ b.v).den (by omega) (by omega)) rfl ?_
  refine CallV.to _ (z_mul (ofQ b.v).num (ofQ a.v).den (by omega) (by omega)) rfl ?_
  refine CallV.to _ (z_mul (ofQ a.v).den (ofQ b.v).den (by omega) (by omega)) rfl ?_
  rw [ofQ_num, ofQ_num, ofQ_den, ofQ_den]
  exact .refl

theorem q_add (a b : BR) (ha : a.len ≤ 50000000) (hb : b.len ≤ 50000000) : CallsG Tryz.prog 115 [.agg (brE a), .agg (brE b)] [] (.agg (brE (ofQ (a.v + b.v)))) [] := by
  have h1 := qlen_v a
  have h2 := qlen_v b
  have n1 := qlen_num a.v
  have n2 := qlen_num b.v
  have d1 := qlen_den a.v
  have d2 := qlen_den b.v
  have m1 := zlen_mul a.v.num b.v.den
  have m2 := zlen_mul b.v.num a.v.den
  have m3 := zlen_mul a.v.den b.v.den
  have m4 := zlen_add (a.v.num * b.v.den) (b.v.num * a.v.den)
  refine calls_to tok mix Tryz.func115 rfl rfl rfl ?_
  refine CallV.to _ (q_cross a b (by omega) (by omega)) rfl ?_
  refine Dr.mk (by decide +kernel) ?_
  refine CallV.to _ (z_add (ofZ (a.v.num * b.v.den)) (ofZ (b.v.num * a.v.den)) (by rw [ofZ_len]; omega) (by rw [ofZ_len]; omega)) rfl ?_
  rw [ofZ_v, ofZ_v]
  refine CallV.to _ (q_lowest (ofZ (a.v.num * b.v.den + b.v.num * a.v.den)) (ofZ (a.v.den * b.v.den)) (by rw [ofZ_len]; omega) (by rw [ofZ_len]; omega) (by rw [ofZ_v]; exact den_mul_ne _ _)) rfl ?_
  rw [ofZ_v, ofZ_v, q_add_eq]
  exact .refl

theorem q_mul (a b : BR) (ha : a.len ≤ 50000000) (hb : b.len ≤ 50000000) : CallsG Tryz.prog 173 [.agg (brE a), .agg (brE b)] [] (.agg (brE (ofQ (a.v * b.v)))) [] := by
  have h1 := qlen_v a
  have h2 := qlen_v b
  have h3 := ofQ_l a.v
  have h4 := ofQ_l b.v
  have n1 := qlen_num a.v
  have n2 := qlen_num b.v
  have d1 := qlen_den a.v
  have d2 := qlen_den b.v
  have m1 := zlen_mul a.v.num b.v.num
  have m3 := zlen_mul a.v.den b.v.den
  refine calls_to tok mix Tryz.func173 rfl rfl rfl ?_
  refine Dr.mk (by decide +kernel) ?_
  refine CallV.to _ (q_normalize a (by omega)) rfl ?_
  refine CallV.to _ (q_normalize b (by omega)) rfl ?_
  refine Dr.mk (by decide +kernel) ?_
  refine CallV.to _ (z_mul (ofQ a.v).num (ofQ b.v).num (by omega) (by omega)) rfl ?_
  refine CallV.to _ (z_mul (ofQ a.v).den (ofQ b.v).den (by omega) (by omega)) rfl ?_
  rw [ofQ_num, ofQ_num, ofQ_den, ofQ_den]
  refine CallV.to _ (q_lowest (ofZ (a.v.num * b.v.num)) (ofZ (a.v.den * b.v.den)) (by rw [ofZ_len]; omega) (by rw [ofZ_len]; omega) (by rw [ofZ_v]; exact den_mul_ne _ _)) rfl ?_
  rw [ofZ_v, ofZ_v, q_mul_eq]
  exact .refl

theorem q_floor (a : BR) (ha : a.len ≤ 100000000) : CallsG Tryz.prog 184 [.agg (brE a)] [] (.agg (biE (ofZ a.v.floor))) [] := by
  have h1 := qlen_v a
  have h3 := ofQ_l a.v
  have h0 := a.v.den_nz
  refine calls_to tok mix Tryz.func184 rfl rfl rfl ?_
  refine CallV.to _ (q_normalize a (by omega)) rfl ?_
  refine CallV.to _ (z_divmod (ofQ a.v).num (ofQ a.v).den (by omega) (by omega) (by rw [ofQ_den]; omega)) rfl ?_
  rw [ofQ_num, ofQ_den, ← Rat.floor_def]
  exact .refl

def qbits (q : Rat) : Nat := max (nbits q.num.natAbs) (nbits q.den)
theorem q_bitlen (a : BR) (ha : a.len ≤ 100000000) : CallsG Tryz.prog 175 [.agg (brE a)] [] (i64 (qbits a.v)) [] := by
  have h1 := qlen_v a
  have h3 := ofQ_l a.v
  refine calls_to tok mix Tryz.func175 rfl rfl rfl ?_
  refine CallV.to _ (q_normalize a (by omega)) rfl ?_
  refine Dr.mk (by decide +kernel) ?_
  refine CallV.to _ (z_bitlen (ofQ a.v).num (by omega)) rfl ?_
  refine CallV.to _ (z_bitlen (ofQ a.v).den (by omega)) rfl ?_
  rw [ofQ_num, ofQ_den, Int.natAbs_natCast]
  refine LE_int ?_
  unfold qbits
  simp only [maxL]
  omega

end Go.Gs
/- Transforms, the program's. -/
namespace Go.Gs
open Go.Proofs

structure AF where
  a : BR
  b : BR
  c : BR
  d : BR
  e : BR
  f : BR
def afE (t : AF) : List SV := brE t.a ++ (brE t.b ++ (brE t.c ++ (brE t.d ++ (brE t.e ++ brE t.f))))
/-- No number is longer. -/
def AF.le (t : AF) (n : Nat) : Prop := t.a.len ≤ n ∧ t.b.len ≤ n ∧ t.c.len ≤ n ∧ t.d.len ≤ n ∧ t.e.len ≤ n ∧ t.f.len ≤ n
def AF.nth (t : AF) : Nat → BR
  | 0 => t.a
  | 1 => t.b
  | 2 => t.c
  | 3 => t.d
  | 4 => t.e
  | _ => t.f
/-- The first numbers are in lowest terms. -/
def stage (t : AF) : Nat → AF
  | 0 => t
  | 1 => { t with a := ofQ t.a.v }
  | 2 => { t with a := ofQ t.a.v, b := ofQ t.b.v }
  | 3 => { t with a := ofQ t.a.v, b := ofQ t.b.v, c := ofQ t.c.v }
  | 4 => { t with a := ofQ t.a.v, b := ofQ t.b.v, c := ofQ t.c.v, d := ofQ t.d.v }
  | 5 => { t with a := ofQ t.a.v, b := ofQ t.b.v, c := ofQ t.c.v, d := ofQ t.d.v, e := ofQ t.e.v }
  | _ => ⟨ofQ t.a.v, ofQ t.b.v, ofQ t.c.v, ofQ t.d.v, ofQ t.e.v, ofQ t.f.v⟩
def AF.nrm (t : AF) : AF := ⟨ofQ t.a.v, ofQ t.b.v, ofQ t.c.v, ofQ t.d.v, ofQ t.e.v, ofQ t.f.v⟩
def zero24 : List SV := (List.replicate 12 [bl false, SV.val (.slice none 0 0)]).flatten

set_option maxRecDepth 100000 in
set_option maxHeartbeats 4000000 in
theorem a_numbers (t : AF) (ht : t.le 400000000) : CallsG Tryz.prog 174 [.agg (afE t)] [] (.agg (afE t.nrm)) [] := by
  obtain ⟨ha, hb, hc, hd, he, hf⟩ := ht
  refine calls_to tok mix Tryz.func174 rfl rfl rfl ?_
  refine ⟨Nat, fun i => ⟨[(20, i64 i), (19, .agg (afE t)), (3, .loc 2 0), (2, .loc 1 0)], [(2, .box 189 (afE (stage t i))), (1, .box 189 zero24), (0, .box 43 (afE t))], 3, 30, 0⟩,
    fun i => i ≤ 6, fun i => 6 - i, 0, Nat.zero_le _, ?_, ?_⟩
  · exact sub_of [(0, some 0), (1, some 1), (2, some 2)] rfl rfl rfl ⟨rfl, rfl, rfl, rfl, trivial⟩ ⟨rfl, rfl, rfl, trivial⟩
  intro i hi
  have hi : i = 0 ∨ i = 1 ∨ i = 2 ∨ i = 3 ∨ i = 4 ∨ i = 5 ∨ i = 6 := by have hi : i ≤ 6 := hi; omega
  rcases hi with rfl | rfl | rfl | rfl | rfl | rfl | rfl
  · refine Br.mk (fun _ => ?_) (fun h => absurd (by decide) h)
    refine CallV.to _ (q_normalize t.a ha) rfl ?_
    refine Ar.fit (by decide) ?_
    exact ⟨1, (by show 1 ≤ 6; decide), sub_of [(0, some 0), (1, some 1), (2, some 2)] rfl rfl rfl ⟨rfl, rfl, rfl, rfl, trivial⟩ ⟨rfl, rfl, rfl, trivial⟩, by decide⟩
  · refine Br.mk (fun _ => ?_) (fun h => absurd (by decide) h)
    refine CallV.to _ (q_normalize t.b hb) rfl ?_
    refine Ar.fit (by decide) ?_
    exact ⟨2, (by show 2 ≤ 6; decide), sub_of [(0, some 0), (1, some 1), (2, some 2)] rfl rfl rfl ⟨rfl, rfl, rfl, rfl, trivial⟩ ⟨rfl, rfl, rfl, trivial⟩, by decide⟩
  · refine Br.mk (fun _ => ?_) (fun h => absurd (by decide) h)
    refine CallV.to _ (q_normalize t.c hc) rfl ?_
    refine Ar.fit (by decide) ?_
    exact ⟨3, (by show 3 ≤ 6; decide), sub_of [(0, some 0), (1, some 1), (2, some 2)] rfl rfl rfl ⟨rfl, rfl, rfl, rfl, trivial⟩ ⟨rfl, rfl, rfl, trivial⟩, by decide⟩
  · refine Br.mk (fun _ => ?_) (fun h => absurd (by decide) h)
    refine CallV.to _ (q_normalize t.d hd) rfl ?_
    refine Ar.fit (by decide) ?_
    exact ⟨4, (by show 4 ≤ 6; decide), sub_of [(0, some 0), (1, some 1), (2, some 2)] rfl rfl rfl ⟨rfl, rfl, rfl, rfl, trivial⟩ ⟨rfl, rfl, rfl, trivial⟩, by decide⟩
  · refine Br.mk (fun _ => ?_) (fun h => absurd (by decide) h)
    refine CallV.to _ (q_normalize t.e he) rfl ?_
    refine Ar.fit (by decide) ?_
    exact ⟨5, (by show 5 ≤ 6; decide), sub_of [(0, some 0), (1, some 1), (2, some 2)] rfl rfl rfl ⟨rfl, rfl, rfl, rfl, trivial⟩ ⟨rfl, rfl, rfl, trivial⟩, by decide⟩
  · refine Br.mk (fun _ => ?_) (fun h => absurd (by decide) h)
    refine CallV.to _ (q_normalize t.f hf) rfl ?_
    refine Ar.fit (by decide) ?_
    exact ⟨6, (by show 6 ≤ 6; decide), sub_of [(0, some 0), (1, some 1), (2, some 2)] rfl rfl rfl ⟨rfl, rfl, rfl, rfl, trivial⟩ ⟨rfl, rfl, rfl, trivial⟩, by decide⟩
  · refine Br.mk (fun h => absurd h (by decide)) (fun _ => ?_)
    exact .refl

set_option maxRecDepth 100000 in
set_option maxHeartbeats 4000000 in
theorem a_made (t : AF) : CallsG Tryz.prog 188 [.agg (afE t)] [] (.agg (afE t)) [] := by
  refine calls_to tok mix Tryz.func188 rfl rfl rfl ?_
  exact .refl

def okI (t : AF) : Nat → Prop
  | 0 => True
  | k + 1 => okI t k ∧ qbits (t.nth k).v ≤ 256
/-- The numbers are short enough. -/
def AF.ok (t : AF) : Prop := okI t 6
instance (t : AF) : ∀ n, Decidable (okI t n) := fun n => by
  induction n with
  | zero => exact isTrue trivial
  | succ k ih => unfold okI; exact instDecidableAnd
instance (t : AF) : Decidable t.ok := inferInstanceAs (Decidable (okI t 6))

set_option maxRecDepth 100000 in
set_option maxHeartbeats 4000000 in
theorem a_valid (t : AF) (ht : t.le 100000000) : CallsG Tryz.prog 117 [.agg (afE t)] [] (pr t.ok) [] := by
  have ht' := ht
  obtain ⟨ha, hb, hc, hd, he, hf⟩ := ht
  refine calls_to tok mix Tryz.func117 rfl rfl rfl ?_
  refine CallV.to _ (a_numbers t ⟨by omega, by omega, by omega, by omega, by omega, by omega⟩) rfl ?_
  refine ⟨Nat, fun i => ⟨[(6, .agg (afE t.nrm)), (7, i64 i)], [], 1, 14, 0⟩, fun i => i ≤ 6 ∧ okI t i, fun i => 6 - i, 0, ⟨Nat.zero_le _, trivial⟩, ?_, ?_⟩
  · exact sub_of [] rfl rfl rfl ⟨rfl, rfl, trivial⟩ trivial
  rintro i ⟨hi, ok⟩
  have hi : i = 0 ∨ i = 1 ∨ i = 2 ∨ i = 3 ∨ i = 4 ∨ i = 5 ∨ i = 6 := by omega
  rcases hi with rfl | rfl | rfl | rfl | rfl | rfl | rfl
  · refine Br.mk (fun _ => ?_) (fun h => absurd (by decide) h)
    have l1 := qlen_v t.a
    refine CallV.to _ (q_bitlen (ofQ t.a.v) (by rw [ofQ_len]; omega)) rfl ?_
    rw [ofQ_v]
    refine Br.mk (fun h => LE_false (fun h' => ?_)) (fun h => ?_)
    · simp only [AF.ok, okI, AF.nth] at h'; omega
    refine Ar.fit (by decide) ?_
    exact ⟨1, ⟨(by show 1 ≤ 6; decide), ok, (by show qbits t.a.v ≤ 256; omega)⟩, sub_of [] rfl rfl rfl ⟨rfl, rfl, trivial⟩ trivial, by decide⟩
  · refine Br.mk (fun _ => ?_) (fun h => absurd (by decide) h)
    have l1 := qlen_v t.b
    refine CallV.to _ (q_bitlen (ofQ t.b.v) (by rw [ofQ_len]; omega)) rfl ?_
    rw [ofQ_v]
    refine Br.mk (fun h => LE_false (fun h' => ?_)) (fun h => ?_)
    · simp only [AF.ok, okI, AF.nth] at h'; omega
    refine Ar.fit (by decide) ?_
    exact ⟨2, ⟨(by show 2 ≤ 6; decide), ok, (by show qbits t.b.v ≤ 256; omega)⟩, sub_of [] rfl rfl rfl ⟨rfl, rfl, trivial⟩ trivial, by decide⟩
  · refine Br.mk (fun _ => ?_) (fun h => absurd (by decide) h)
    have l1 := qlen_v t.c
    refine CallV.to _ (q_bitlen (ofQ t.c.v) (by rw [ofQ_len]; omega)) rfl ?_
    rw [ofQ_v]
    refine Br.mk (fun h => LE_false (fun h' => ?_)) (fun h => ?_)
    · simp only [AF.ok, okI, AF.nth] at h'; omega
    refine Ar.fit (by decide) ?_
    exact ⟨3, ⟨(by show 3 ≤ 6; decide), ok, (by show qbits t.c.v ≤ 256; omega)⟩, sub_of [] rfl rfl rfl ⟨rfl, rfl, trivial⟩ trivial, by decide⟩
  · refine Br.mk (fun _ => ?_) (fun h => absurd (by decide) h)
    have l1 := qlen_v t.d
    refine CallV.to _ (q_bitlen (ofQ t.d.v) (by rw [ofQ_len]; omega)) rfl ?_
    rw [ofQ_v]
    refine Br.mk (fun h => LE_false (fun h' => ?_)) (fun h => ?_)
    · simp only [AF.ok, okI, AF.nth] at h'; omega
    refine Ar.fit (by decide) ?_
    exact ⟨4, ⟨(by show 4 ≤ 6; decide), ok, (by show qbits t.d.v ≤ 256; omega)⟩, sub_of [] rfl rfl rfl ⟨rfl, rfl, trivial⟩ trivial, by decide⟩
  · refine Br.mk (fun _ => ?_) (fun h => absurd (by decide) h)
    have l1 := qlen_v t.e
    refine CallV.to _ (q_bitlen (ofQ t.e.v) (by rw [ofQ_len]; omega)) rfl ?_
    rw [ofQ_v]
    refine Br.mk (fun h => LE_false (fun h' => ?_)) (fun h => ?_)
    · simp only [AF.ok, okI, AF.nth] at h'; omega
    refine Ar.fit (by decide) ?_
    exact ⟨5, ⟨(by show 5 ≤ 6; decide), ok, (by show qbits t.e.v ≤ 256; omega)⟩, sub_of [] rfl rfl rfl ⟨rfl, rfl, trivial⟩ trivial, by decide⟩
  · refine Br.mk (fun _ => ?_) (fun h => absurd (by decide) h)
    have l1 := qlen_v t.f
    refine CallV.to _ (q_bitlen (ofQ t.f.v) (by rw [ofQ_len]; omega)) rfl ?_
    rw [ofQ_v]
    refine Br.mk (fun h => LE_false (fun h' => ?_)) (fun h => ?_)
    · simp only [AF.ok, okI, AF.nth] at h'; omega
    refine Ar.fit (by decide) ?_
    exact ⟨6, ⟨(by show 6 ≤ 6; decide), ok, (by show qbits t.f.v ≤ 256; omega)⟩, sub_of [] rfl rfl rfl ⟨rfl, rfl, trivial⟩ trivial, by decide⟩
  · refine Br.mk (fun h => absurd h (by decide)) (fun _ => ?_)
    exact LE_true ok

theorem a_twos (a b c d : BR) (ha : a.len ≤ 10000000) (hb : b.len ≤ 10000000) (hc : c.len ≤ 10000000) (hd : d.len ≤ 10000000) :
    CallsG Tryz.prog 116 [.agg (brE a), .agg (brE b), .agg (brE c), .agg (brE d)] [] (.agg (brE (ofQ (a.v * b.v + c.v * d.v)))) [] := by
  have l1 := qlen_v a
  have l2 := qlen_v b
  have l3 := qlen_v c
  have l4 := qlen_v d
  have m1 := qlen_mul a.v b.v
  have m2 := qlen_mul c.v d.v
  refine calls_to tok mix Tryz.func116 rfl rfl rfl ?_
  refine Dr.mk (by decide +kernel) ?_
  refine CallV.to _ (q_mul a b (by omega) (by omega)) rfl ?_
  refine CallV.to _ (q_mul c d (by omega) (by omega)) rfl ?_
  refine CallV.to _ (q_add (ofQ (a.v * b.v)) (ofQ (c.v * d.v)) (by rw [ofQ_len]; omega) (by rw [ofQ_len]; omega)) rfl ?_
  rw [ofQ_v, ofQ_v]
  exact .refl

def applX (t : AF) (x y : Rat) : Rat := t.a.v * x + t.c.v * y + t.e.v
def applY (t : AF) (x y : Rat) : Rat := t.b.v * x + t.d.v * y + t.f.v
theorem qlen_twos (a b c d e : BR) {n : Nat} (h1 : a.len ≤ n) (h2 : b.len ≤ n) (h3 : c.len ≤ n) (h4 : d.len ≤ n) (h5 : e.len ≤ n) : qlen (a.v * b.v + c.v * d.v) ≤ 4 * n + 5 ∧ qlen (a.v * b.v + c.v * d.v + e.v) ≤ 5 * n + 7 := by
  have l1 := qlen_v a
  have l2 := qlen_v b
  have l3 := qlen_v c
  have l4 := qlen_v d
  have l5 := qlen_v e
  have m1 := qlen_mul a.v b.v
  have m2 := qlen_mul c.v d.v
  have m3 := qlen_add (a.v * b.v) (c.v * d.v)
  have m4 := qlen_add (a.v * b.v + c.v * d.v) e.v
  omega
theorem a_exact (t : AF) (x y : BR) (ht : t.le 5000000) (hx : x.len ≤ 5000000) (hy : y.len ≤ 5000000) :
    CallsG Tryz.prog 85 [.agg (afE t), .agg (brE x), .agg (brE y)] [] (.tup [.agg (brE (ofQ (applX t x.v y.v))), .agg (brE (ofQ (applY t x.v y.v)))]) [] := by
  obtain ⟨ha, hb, hc, hd, he, hf⟩ := ht
  have m1 := qlen_twos t.a x t.c y t.e ha hx hc hy he
  have m2 := qlen_twos t.b x t.d y t.f hb hx hd hy hf
  refine calls_to tok mix Tryz.func85 rfl rfl rfl ?_
  refine Dr.mk (by decide +kernel) ?_
  refine CallV.to _ (a_twos t.a x t.c y (by omega) (by omega) (by omega) (by omega)) rfl ?_
  refine CallV.to _ (q_add (ofQ (t.a.v * x.v + t.c.v * y.v)) t.e (by rw [ofQ_len]; omega) (by omega)) rfl ?_
  refine CallV.to _ (a_twos t.b x t.d y (by omega) (by omega) (by omega) (by omega)) rfl ?_
  refine CallV.to _ (q_add (ofQ (t.b.v * x.v + t.d.v * y.v)) t.f (by rw [ofQ_len]; omega) (by omega)) rfl ?_
  rw [ofQ_v, ofQ_v]
  exact .refl

end Go.Gs
/- Transforms, the program's: the identity and translations. -/
namespace Go.Gs
open Go.Proofs

/-- The transform with these numbers. -/
def afQ (a b c d e f : Rat) : AF := ⟨ofQ a, ofQ b, ofQ c, ofQ d, ofQ e, ofQ f⟩

set_option maxRecDepth 100000 in
set_option maxHeartbeats 4000000 in
theorem a_ints (a b c d : Int) (ha : R64 a) (hb : R64 b) (hc : R64 c) (hd : R64 d) : CallsG Tryz.prog 187 [i64 a, i64 b, i64 c, i64 d] [] (.agg (afE (afQ a b c d ((0 : Int) : Rat) ((0 : Int) : Rat)))) [] := by
  refine calls_to tok mix Tryz.func187 rfl rfl rfl ?_
  refine CallV.to _ (q_fromint a ha) rfl ?_
  refine CallV.to _ (q_fromint b hb) rfl ?_
  refine CallV.to _ (q_fromint c hc) rfl ?_
  refine CallV.to _ (q_fromint d hd) rfl ?_
  refine CallV.to _ (q_fromint 0 (by decide)) rfl ?_
  refine CallV.to _ (q_fromint 0 (by decide)) rfl ?_
  refine CallV.to _ (a_made (afQ a b c d ((0 : Int) : Rat) ((0 : Int) : Rat))) rfl ?_
  exact .refl

set_option maxRecDepth 100000 in
set_option maxHeartbeats 4000000 in
theorem a_identity : CallsG Tryz.prog 132 [] [] (.agg (afE (afQ ((1 : Int) : Rat) ((0 : Int) : Rat) ((0 : Int) : Rat) ((1 : Int) : Rat) ((0 : Int) : Rat) ((0 : Int) : Rat)))) [] := by
  refine calls_to tok mix Tryz.func132 rfl rfl rfl ?_
  refine CallV.to _ (a_ints 1 0 0 1 (by decide) (by decide) (by decide) (by decide)) rfl ?_
  exact .refl

end Go.Gs
/- Integers, the program's: comparison. -/
namespace Go.Gs
open Go.Proofs

theorem z_cmp (a b : BI) (ha : a.mag.length ≤ 800000000) (hb : b.mag.length ≤ 800000000) : CallsG Tryz.prog 180 [.agg (biE a), .agg (biE b)] [] (i64 (a.v - b.v).sign) [] := by
  refine calls_to tok mix Tryz.func180 rfl rfl rfl ?_
  refine CallV.to _ (z_sub a b ha hb) rfl ?_
  have h1 := zlen_sub a.v b.v
  have h2 := zlen_v a
  have h3 := zlen_v b
  refine CallV.to _ (z_sign (ofZ (a.v - b.v)) (by rw [ofZ_len]; omega)) rfl ?_
  rw [ofZ_v]
  exact .refl

end Go.Gs
/- Rationals, the program's: difference, comparison. -/
namespace Go.Gs
open Go.Proofs

/-- How two rationals compare: -1, 0, 1. -/
def cmpQ (x y : Rat) : Int := (x.num * y.den - y.num * x.den).sign
theorem sign_range (z : Int) : -1 ≤ z.sign ∧ z.sign ≤ 1 := by
  rcases Int.lt_trichotomy z 0 with h | h | h
  · rw [Int.sign_eq_neg_one_of_neg h]; decide
  · subst h; decide
  · rw [Int.sign_eq_one_of_pos h]; decide
theorem sign_nonneg {z : Int} : 0 ≤ z.sign ↔ 0 ≤ z := by
  rcases Int.lt_trichotomy z 0 with h | h | h
  · rw [Int.sign_eq_neg_one_of_neg h]; omega
  · subst h; decide
  · rw [Int.sign_eq_one_of_pos h]; omega
theorem cmpQ_ge {x y : Rat} : 0 ≤ cmpQ x y ↔ y ≤ x := by
  rw [Rat.le_iff]; unfold cmpQ; rw [sign_nonneg]; omega
theorem cmpQ_neg (x y : Rat) : cmpQ y x = - cmpQ x y := by
  unfold cmpQ
  rw [show y.num * x.den - x.num * y.den = -(x.num * y.den - y.num * x.den) by omega, Int.sign_neg]
theorem cmpQ_le {x y : Rat} : cmpQ x y ≤ 0 ↔ x ≤ y := by
  have := cmpQ_ge (x := y) (y := x)
  rw [cmpQ_neg] at this
  rw [← this]; omega

theorem q_cmp (a b : BR) (ha : a.len ≤ 100000000) (hb : b.len ≤ 100000000) : CallsG Tryz.prog 124 [.agg (brE a), .agg (brE b)] [] (i64 (cmpQ a.v b.v)) [] := by
  have h1 := qlen_v a
  have h2 := qlen_v b
  have n1 := qlen_num a.v
  have n2 := qlen_num b.v
  have d1 := qlen_den a.v
  have d2 := qlen_den b.v
  have m1 := zlen_mul a.v.num b.v.den
  have m2 := zlen_mul b.v.num a.v.den
  refine calls_to tok mix Tryz.func124 rfl rfl rfl ?_
  refine CallV.to _ (q_cross a b (by omega) (by omega)) rfl ?_
  refine CallV.to _ (z_cmp (ofZ (a.v.num * b.v.den)) (ofZ (b.v.num * a.v.den)) (by rw [ofZ_len]; omega) (by rw [ofZ_len]; omega)) rfl ?_
  rw [ofZ_v, ofZ_v]
  exact .refl

theorem q_sub (a b : BR) (ha : a.len ≤ 50000000) (hb : b.len ≤ 50000000) : CallsG Tryz.prog 181 [.agg (brE a), .agg (brE b)] [] (.agg (brE (ofQ (a.v - b.v)))) [] := by
  have h1 := qlen_v a
  have h2 := qlen_v b
  have n1 := qlen_num a.v
  have n2 := qlen_num b.v
  have d1 := qlen_den a.v
  have d2 := qlen_den b.v
  have m1 := zlen_mul a.v.num b.v.den
  have m2 := zlen_mul b.v.num a.v.den
  have m3 := zlen_mul a.v.den b.v.den
  have m4 := zlen_sub (a.v.num * b.v.den) (b.v.num * a.v.den)
  refine calls_to tok mix Tryz.func181 rfl rfl rfl ?_
  refine CallV.to _ (q_cross a b (by omega) (by omega)) rfl ?_
  refine Dr.mk (by decide +kernel) ?_
  refine CallV.to _ (z_sub (ofZ (a.v.num * b.v.den)) (ofZ (b.v.num * a.v.den)) (by rw [ofZ_len]; omega) (by rw [ofZ_len]; omega)) rfl ?_
  rw [ofZ_v, ofZ_v]
  refine CallV.to _ (q_lowest (ofZ (a.v.num * b.v.den - b.v.num * a.v.den)) (ofZ (a.v.den * b.v.den)) (by rw [ofZ_len]; omega) (by rw [ofZ_len]; omega) (by rw [ofZ_v]; exact den_mul_ne _ _)) rfl ?_
  rw [ofZ_v, ofZ_v, q_sub_eq]
  exact .refl

theorem qlen_neg (x : Rat) : qlen (-x) = qlen x := by
  unfold qlen; rw [Rat.neg_num, Rat.neg_den, zlen_neg]
theorem qlen_sub (x y : Rat) : qlen (x - y) ≤ qlen x + qlen y + 1 := by
  have := qlen_add x (-y)
  rw [qlen_neg, ← Rat.sub_eq_add_neg] at this
  exact this

end Go.Gs
