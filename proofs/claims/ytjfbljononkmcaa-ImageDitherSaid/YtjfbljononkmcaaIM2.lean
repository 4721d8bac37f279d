/- Dithered pictures: the other text; the law. -/
import Derived.Test.YtjfbljononkmcaaIM1
namespace Go.Gs
open Go.Proofs

set_option maxRecDepth 100000 in
theorem c_dither' (m : Img) (L : Int) (hL : R64 L) (hp : ∀ q ∈ m.px, P8 q) :
    CallsG Try.prog 24 [.agg (imgE m), i64 L] [] (cropR (dither m L)) [(0, .arr 37 pixE 4 (dither m L).1.px)] := by
  generalize hc : dither m L = c
  refine calls_own tok mix Try.func24 rfl rfl rfl ?_
  have bad : ∀ e : Int, c = (⟨0, 0, []⟩, e) → Take none (.tup [.agg [i64 0, i64 0, .val (.slice none 0 0)], i64 e]) (cropR c) ∧ c.1.px = [] := fun e he => by
    subst he
    exact ⟨take_tup (.cons (take_agg (.cons (take_int rfl) (.cons (take_int rfl) (.cons (.nil rfl) .nil)))) (.cons (take_int rfl) .nil)), rfl⟩
  refine CallV.to _ (c_valid' m) rfl ?_
  refine Br.mk (fun h1 => ⟨none, bad 16 (by rw [← hc, dither, if_pos h1])⟩) (fun h1 => ?_)
  have h1' := Decidable.not_not.1 h1
  obtain ⟨m1, m2, m3, m4, _⟩ := h1'
  refine Br.mk (fun g1 => ⟨none, bad 2 (by rw [← hc, dither, if_neg h1, if_pos (.inl g1)])⟩) (fun g1 => ?_)
  refine Br.mk (fun g2 => ⟨none, bad 2 (by rw [← hc, dither, if_neg h1, if_pos (.inr g2)])⟩) (fun g2 => ?_)
  have hc' : c = (⟨m.w, m.h, ditPx m L⟩, 0) := by rw [← hc, dither, if_neg h1, if_neg (by omega)]
  clear bad hc
  subst hc'
  refine ⟨Nat, fun i => ⟨[(7, i64 i), (1, i64 L), (2, .loc 0 0), (4, .loc 1 0), (6, .loc 2 0)],
    [(3, .arr 37 pixE 4 (ditTo m L i)), (2, .box 28 [i64 m.w, i64 m.h, .own 3]), (1, .box 28 [i64 0, i64 0, .val (.slice none 0 0)]), (0, .box 28 (imgE m))], 4, 75, 0⟩,
    fun i => i ≤ m.px.length, fun i => m.px.length - i, 0, ?_, ?_, ?_⟩
  · exact Nat.zero_le _
  · exact sub_of [(0, some 0), (1, some 1), (2, some 2), (3, none)] rfl rfl rfl ⟨rfl, rfl, rfl, rfl, rfl, trivial⟩ ⟨rfl, rfl, rfl, rfl, trivial⟩
  rintro i hi
  have hi : i ≤ m.px.length := hi
  intro hl
  refine Br.mk (fun g9 => ?_) (fun g9 => ?_)
  · refine Ob.mk (by omega) ?_
    intro p hpx
    have hpx : m.px[i]? = some p := hpx
    have h8 := hp p (List.mem_of_getElem? hpx)
    refine Dr.mk (by decide +kernel) ?_
    refine Dv.pos ⟨by omega, by omega⟩ ?_
    refine Dv.pos ⟨by omega, by omega, by show _ ≤ (9223372036854775807 : Int); omega⟩ ?_
    have hb := thr_range ((i : Int) % m.w) ((i : Int) / m.w)
    refine CallV.to _ (c_bayer _ _ (Int.emod_nonneg _ (by omega)) (Int.ediv_nonneg (by omega) (by omega))) rfl ?_
    refine Dr.mk (by decide +kernel) ?_
    refine CallV.to _ (c_dithered p.r L _ h8.1 (by omega) hb) rfl ?_
    refine CallV.to _ (c_dithered p.g L _ h8.2.1 (by omega) hb) rfl ?_
    refine CallV.to _ (c_dithered p.b L _ h8.2.2.1 (by omega) hb) rfl ?_
    refine CallV.to _ (c_dithered p.a L _ h8.2.2.2 (by omega) hb) rfl ?_
    refine CallV.to _ (c_pclamp' ⟨lev p.r L _, lev p.g L _, lev p.b L _, lev p.a L _⟩) rfl ?_
    refine ⟨Pix, pixE, [ditP p L (thr ((i : Int) % m.w) ((i : Int) / m.w))], rfl, Ob.mk ⟨rfl, by decide, by decide, by decide, fun x hx => by cases hx with | head => exact ⟨rfl, rfl, rfl⟩ | tail _ h => cases h⟩ ?_⟩
    have hlen := ditTo_len m L i
    have hmw : m.w * m.h ≤ 65536 := m3
    refine ⟨_, rfl, Ob.mk ⟨(by show _ * (4 : Int) ≤ _; simp; omega), (by simp; omega), by decide, fun _ _ => rfl⟩ ?_⟩
    refine Ar.fit (by omega) ?_
    refine ⟨i + 1, (by show i + 1 ≤ m.px.length; omega), sub_of [(0, some 0), (1, some 1), (2, some 2), (3, some 6)] rfl rfl rfl
      ⟨rfl, rfl, rfl, rfl, rfl, trivial⟩ ⟨congrArg (fun l => some (Mem.arr 37 pixE 4 l)) (ditTo_succ hpx).symm, rfl, rfl, rfl, trivial⟩, (by dsimp only; omega)⟩
  · have e : i = m.px.length := by omega
    exact ⟨some 3, take_tup (.cons (take_agg (.cons (take_int rfl) (.cons (take_int rfl) (.cons (.own _ rfl) .nil)))) (.cons (take_int rfl) .nil)), by
      have : ditTo m L i = ditPx m L := by rw [e, ← ditPx_len m L]; exact List.take_length
      rw [← this]; rfl, fun _ _ => rfl⟩

theorem dither_ok {m : Img} {L : Int} : (dither m L).2 = 0 ↔ imgOK m ∧ 2 ≤ L ∧ L ≤ 256 := by
  unfold dither
  by_cases h : imgOK m
  · rw [if_neg (not_not_intro h)]
    split
    · simp; omega
    · simp; exact ⟨h, by omega⟩
  · rw [if_pos h]; simp; exact fun h' => absurd h' h
theorem dither_valid {m : Img} {L : Int} (h : (dither m L).2 = 0) : imgOK (dither m L).1 := by
  have h' := dither_ok.1 h
  unfold dither
  rw [if_neg (not_not_intro h'.1), if_neg (by omega)]
  exact ditPx_ok h'.1
theorem dither_256 {m : Img} (h : imgOK m) (hp : ∀ q ∈ m.px, P8 q) : (dither m 256).1 = m := by
  unfold dither
  rw [if_neg (not_not_intro h), if_neg (by omega)]
  show Img.mk m.w m.h (ditPx m 256) = m
  rw [ditPx_256 h hp]

set_option maxRecDepth 100000 in
theorem c_law7 (m : Img) (L : Int) (hL : R64 L) (hp : ∀ q ∈ m.px, P8 q) :
    CallsG Try.prog 7 [.agg (imgE m), i64 L] [] (bl true) [] := by
  refine calls_to tok mix Try.func7 rfl rfl rfl ?_
  intro hl
  refine Br.mk (fun _ => CallV.to _ c_example rfl .refl) (fun h1 => ?_)
  refine CallV.fresh _ _ (c_dither m L hl hp) rfl (pix_flat _) (.inr (pix_scalar _)) ?_
  refine CallV.fresh _ _ (c_dither' m L hL hp) rfl (pix_flat _) (.inr (pix_scalar _)) ?_
  refine CallV.to _ (c_equal' (dither m L).1 (dither m L).1) rfl ?_
  refine Br.mk (fun k => absurd rfl k) (fun _ => ?_)
  refine Br.mk (fun k => absurd rfl k) (fun _ => ?_)
  have iff : (dither m 256).2 = 0 ↔ imgOK m := dither_ok.trans ⟨fun h => h.1, fun h => ⟨h, by omega⟩⟩
  refine Br.mk (fun h2 => ?_) (fun h2 => ?_)
  · have hv := dither_valid h2
    have hlen : (dither m L).1.px.length ≤ 9223372036854775807 := by
      obtain ⟨o1, o2⟩ := dither_ok.1 h2
      unfold dither
      rw [if_neg (not_not_intro o1), if_neg (by omega)]
      show (ditPx m L).length ≤ _
      rw [ditPx_len]; exact hl
    refine CallV.to _ (c_valid (dither m L).1 hlen) rfl ?_
    refine Br.mk (fun k => absurd hv k) (fun _ => ?_)
    refine CallV.fresh _ _ (c_dither m 256 hl hp) rfl (pix_flat _) (.inr (pix_scalar _)) ?_
    refine Br.mk (fun k1 => ?_) (fun k1 => ?_)
    · refine CallV.to _ (c_valid' m) rfl ?_
      refine Br.mk (fun _ => ?_) (fun k => absurd iff k)
      refine CallV.to _ c_example rfl ?_
      exact .refl
    · have k2 := iff.1 (Decidable.not_not.1 k1)
      refine CallV.to _ (c_equal' (dither m 256).1 m) rfl ?_
      refine Br.mk (fun _ => ?_) (fun k => absurd (dither_256 k2 hp) k)
      refine CallV.to _ (c_valid' m) rfl ?_
      refine Br.mk (fun _ => ?_) (fun k => absurd iff k)
      refine CallV.to _ c_example rfl ?_
      exact .refl
  · refine CallV.fresh _ _ (c_dither m 256 hl hp) rfl (pix_flat _) (.inr (pix_scalar _)) ?_
    refine Br.mk (fun k1 => ?_) (fun k1 => ?_)
    · refine CallV.to _ (c_valid' m) rfl ?_
      refine Br.mk (fun _ => ?_) (fun k => absurd iff k)
      refine CallV.to _ c_example rfl ?_
      exact .refl
    · have k2 := iff.1 (Decidable.not_not.1 k1)
      refine CallV.to _ (c_equal' (dither m 256).1 m) rfl ?_
      refine Br.mk (fun _ => ?_) (fun k => absurd (dither_256 k2 hp) k)
      refine CallV.to _ (c_valid' m) rfl ?_
      refine Br.mk (fun _ => ?_) (fun k => absurd iff k)
      refine CallV.to _ c_example rfl ?_
      exact .refl

end Go.Gs
