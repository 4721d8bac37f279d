/- Dithered pictures: the program's text. -/
import Derived.Test.YtjfbljononkmcaaIM0
namespace Go.Gs
open Go.Proofs

abbrev P8 (p : Pix) : Prop := R8 p.r ∧ R8 p.g ∧ R8 p.b ∧ R8 p.a

theorem c_comp0 (p : Pix) (h : P8 p) : CallsG Try.prog 50 [.agg (pixE p), i64 0] [] (i64 p.r) [] := by
  refine calls_to tok mix Try.func50 rfl rfl rfl ?_
  refine Ar.fit (by omega) ?_
  exact .refl
theorem c_comp1 (p : Pix) (h : P8 p) : CallsG Try.prog 50 [.agg (pixE p), i64 1] [] (i64 p.g) [] := by
  refine calls_to tok mix Try.func50 rfl rfl rfl ?_
  refine Ar.fit (by omega) ?_
  exact .refl
theorem c_comp2 (p : Pix) (h : P8 p) : CallsG Try.prog 50 [.agg (pixE p), i64 2] [] (i64 p.b) [] := by
  refine calls_to tok mix Try.func50 rfl rfl rfl ?_
  refine Ar.fit (by omega) ?_
  exact .refl
theorem c_comp3 (p : Pix) (h : P8 p) : CallsG Try.prog 50 [.agg (pixE p), i64 3] [] (i64 p.a) [] := by
  refine calls_to tok mix Try.func50 rfl rfl rfl ?_
  refine Ar.fit (by omega) ?_
  exact .refl

theorem c_dit1 (p : Pix) (c L b v : Int) (hp : CallsG Try.prog 50 [.agg (pixE p), i64 c] [] (i64 v) []) (hv : R8 v) (hL : 2 ≤ L ∧ L ≤ 256) (hb : 0 ≤ b ∧ b ≤ 15) :
    CallsG Try.prog 48 [i64 c, .ptr (pixE p), .ptr [i64 L], .ptr [i64 b]] [] (u8 (lev v L b)) [] := by
  refine calls_to tok mix Try.func48 rfl rfl rfl ?_
  refine Dr.mk (by decide +kernel) ?_
  refine CallV.to _ hp rfl ?_
  refine CallV.to _ (c_level v L b hv hL hb) rfl ?_
  exact .refl

set_option maxRecDepth 100000 in
theorem c_dither (m : Img) (L : Int) (hl : m.px.length ≤ 9223372036854775807) (hp : ∀ q ∈ m.px, P8 q) :
    CallsG Try.prog 23 [.agg (imgE m), i64 L] [] (cropR (dither m L)) [(0, .arr 37 pixE 4 (dither m L).1.px)] := by
  generalize hc : dither m L = c
  refine calls_own tok mix Try.func23 rfl rfl rfl ?_
  have bad : ∀ e : Int, c = (⟨0, 0, []⟩, e) → Take none (.tup [.agg [i64 0, i64 0, .val (.slice none 0 0)], i64 e]) (cropR c) ∧ c.1.px = [] := fun e he => by
    subst he
    exact ⟨take_tup (.cons (take_agg (.cons (take_int rfl) (.cons (take_int rfl) (.cons (.nil rfl) .nil)))) (.cons (take_int rfl) .nil)), rfl⟩
  refine CallV.to _ (c_valid m hl) rfl ?_
  refine Br.mk (fun h1 => ⟨none, bad 16 (by rw [← hc, dither, if_pos h1])⟩) (fun h1 => ?_)
  have h1' := Decidable.not_not.1 h1
  obtain ⟨m1, m2, m3, m4, _⟩ := h1'
  refine Br.mk (fun g1 => ⟨none, bad 2 (by rw [← hc, dither, if_neg h1, if_pos (.inl g1)])⟩) (fun g1 => ?_)
  refine Br.mk (fun g2 => ⟨none, bad 2 (by rw [← hc, dither, if_neg h1, if_pos (.inr g2)])⟩) (fun g2 => ?_)
  have hc' : c = (⟨m.w, m.h, ditPx m L⟩, 0) := by rw [← hc, dither, if_neg h1, if_neg (by omega)]
  clear bad hc
  subst hc'
  intro hl2
  refine ⟨Nat, fun i => ⟨[(30, i64 i), (29, i64 m.px.length), (28, .sl pixE m.px), (2, .loc 0 0), (3, .loc 1 0), (4, .loc 2 0), (6, .loc 3 0)],
    [(4, .arr 37 pixE 4 (ditTo m L i)), (3, .box 28 [i64 m.w, i64 m.h, .own 4]), (2, .box 28 [i64 0, i64 0, .val (.slice none 0 0)]), (1, .box 3 [i64 L]), (0, .box 28 (imgE m))], 5, 62, 0⟩,
    fun i => i ≤ m.px.length, fun i => m.px.length - i, 0, ?_, ?_, ?_⟩
  · exact Nat.zero_le _
  · exact sub_of [(0, some 0), (1, some 1), (2, some 2), (3, some 3), (4, none)] rfl rfl rfl ⟨rfl, rfl, rfl, rfl, rfl, rfl, rfl, trivial⟩ ⟨rfl, rfl, rfl, rfl, rfl, trivial⟩
  rintro i hi
  have hi : i ≤ m.px.length := hi
  refine Br.mk (fun g9 => ?_) (fun g9 => ?_)
  · refine Ob.mk (by omega) ?_
    intro p hpx
    have hpx : m.px[i]? = some p := hpx
    have h8 := hp p (List.mem_of_getElem? hpx)
    refine Dr.mk (by decide +kernel) ?_
    refine Dv.pos ⟨by omega, by omega⟩ ?_
    refine Dv.pos ⟨by omega, by omega, by show _ ≤ (9223372036854775807 : Int); omega⟩ ?_
    have hb := thr_range ((i : Int) % m.w) ((i : Int) / m.w)
    refine CallV.to _ (c_threshold _ _ (Int.emod_nonneg _ (by omega)) (Int.ediv_nonneg (by omega) (by omega))) rfl ?_
    refine Dr.mk (by decide +kernel) ?_
    refine CallV.to _ (c_dit1 p 0 L _ p.r (c_comp0 p h8) h8.1 (by omega) hb) rfl ?_
    refine CallV.to _ (c_dit1 p 1 L _ p.g (c_comp1 p h8) h8.2.1 (by omega) hb) rfl ?_
    refine CallV.to _ (c_dit1 p 2 L _ p.b (c_comp2 p h8) h8.2.2.1 (by omega) hb) rfl ?_
    refine CallV.to _ (c_dit1 p 3 L _ p.a (c_comp3 p h8) h8.2.2.2 (by omega) hb) rfl ?_
    refine CallV.to _ (c_pclamp ⟨lev p.r L _, lev p.g L _, lev p.b L _, lev p.a L _⟩) rfl ?_
    refine ⟨Pix, pixE, [ditP p L (thr ((i : Int) % m.w) ((i : Int) / m.w))], congrArg (fun n => [u8 _, u8 _, u8 _, u8 n]) (Int.min_self _).symm, Ob.mk ⟨rfl, by decide, by decide, by decide, fun x hx => by cases hx with | head => exact ⟨rfl, rfl, rfl⟩ | tail _ h => cases h⟩ ?_⟩
    have hlen := ditTo_len m L i
    have hmw : m.w * m.h ≤ 65536 := m3
    refine ⟨_, rfl, Ob.mk ⟨(by show _ * (4 : Int) ≤ _; simp; omega), (by simp; omega), by decide, fun _ _ => rfl⟩ ?_⟩
    refine Ar.fit (by omega) ?_
    refine ⟨i + 1, (by show i + 1 ≤ m.px.length; omega), sub_of [(0, some 0), (1, some 1), (2, some 2), (3, some 3), (4, some 8)] rfl rfl rfl
      ⟨rfl, rfl, rfl, rfl, rfl, rfl, rfl, trivial⟩ ⟨congrArg (fun l => some (Mem.arr 37 pixE 4 l)) (ditTo_succ hpx).symm, rfl, rfl, rfl, rfl, trivial⟩, (by dsimp only; omega)⟩
  · have e : i = m.px.length := by omega
    exact ⟨some 4, take_tup (.cons (take_agg (.cons (take_int rfl) (.cons (take_int rfl) (.cons (.own _ rfl) .nil)))) (.cons (take_int rfl) .nil)), by
      have : ditTo m L i = ditPx m L := by rw [e, ← ditPx_len m L]; exact List.take_length
      rw [← this]; rfl, fun _ _ => rfl⟩

end Go.Gs
