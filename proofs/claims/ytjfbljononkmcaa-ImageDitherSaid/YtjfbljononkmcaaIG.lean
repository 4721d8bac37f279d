/- A part of a picture. -/
import Derived.Test.YtjfbljononkmcaaIE
namespace Go.Gs
open Go.Proofs

def cropIn (m : Img) (x y w h : Int) : Prop := 0 ≤ x ∧ 0 ≤ y ∧ 1 ≤ w ∧ 1 ≤ h ∧ w ≤ m.w - x ∧ h ≤ m.h - y
instance (m : Img) (x y w h : Int) : Decidable (cropIn m x y w h) := inferInstanceAs (Decidable (_ ∧ _))
/-- The rows of a part, the first 'n' of them. -/
def cropPx (m : Img) (x y w : Int) (n : Nat) : List Pix := (List.range n).flatMap fun (j : Nat) => (m.px.drop ((y + j) * m.w + x).toNat).take w.toNat
def crop (m : Img) (x y w h : Int) : Img × Int :=
  if ¬ imgOK m then (⟨0, 0, []⟩, 16) else if ¬ cropIn m x y w h then (⟨0, 0, []⟩, 6) else (⟨w, h, cropPx m x y w h.toNat⟩, 0)

theorem cropPx_succ (m : Img) (x y w : Int) (n : Nat) : cropPx m x y w (n + 1) = cropPx m x y w n ++ (m.px.drop ((y + n) * m.w + x).toNat).take w.toNat := by
  simp [cropPx, List.range_succ, List.flatMap_append]

theorem cropPx_len (m : Img) (x y w : Int) (n : Nat) : (cropPx m x y w n).length ≤ n * w.toNat := by
  induction n with
  | zero => simp [cropPx]
  | succ n ih => rw [cropPx_succ, List.length_append, Nat.succ_mul]; simp only [List.length_take]; omega

def cropR (c : Img × Int) : SV := .tup [.agg [i64 c.1.w, i64 c.1.h, .own 0], i64 c.2]

set_option maxRecDepth 100000 in
theorem c_crop (m : Img) (x y w h : Int) (hl : m.px.length ≤ 9223372036854775807) (hx : R64 x) (hy : R64 y) (hw : R64 w) (hh : R64 h) :
    CallsG Try.prog 15 [.agg (imgE m), i64 x, i64 y, i64 w, i64 h] [] (cropR (crop m x y w h)) [(0, .arr 37 pixE 4 (crop m x y w h).1.px)] := by
  generalize hc : crop m x y w h = c
  refine calls_own tok mix Try.func15 rfl rfl rfl ?_
  have bad : ∀ e : Int, c = (⟨0, 0, []⟩, e) → Take none (.tup [.agg [i64 0, i64 0, .val (.slice none 0 0)], i64 e]) (cropR c) ∧ c.1.px = [] := fun e he => by
    subst he
    exact ⟨take_tup (.cons (take_agg (.cons (take_int rfl) (.cons (take_int rfl) (.cons (.nil rfl) .nil)))) (.cons (take_int rfl) .nil)), rfl⟩
  refine CallV.to _ (c_valid m hl) rfl ?_
  refine Br.mk (fun h1 => ⟨none, bad 16 (by rw [← hc, crop, if_pos h1])⟩) (fun h1 => ?_)
  have h1' := Decidable.not_not.1 h1
  obtain ⟨m1, m2, m3, m4, _⟩ := h1'
  have out : ¬ cropIn m x y w h → Take none (.tup [.agg [i64 0, i64 0, .val (.slice none 0 0)], i64 6]) (cropR c) ∧ c.1.px = [] := fun hn => bad 6 (by rw [← hc, crop, if_neg h1, if_pos hn])
  refine Br.mk (fun g1 => ⟨none, out fun hn => by unfold cropIn at hn; omega⟩) (fun g1 => ?_)
  refine Br.mk (fun g2 => ⟨none, out fun hn => by unfold cropIn at hn; omega⟩) (fun g2 => ?_)
  refine Br.mk (fun g3 => ⟨none, out fun hn => by unfold cropIn at hn; omega⟩) (fun g3 => ?_)
  refine Br.mk (fun g4 => ⟨none, out fun hn => by unfold cropIn at hn; omega⟩) (fun g4 => ?_)
  refine Br.mk (fun g5 => ⟨none, out fun hn => by unfold cropIn at hn; omega⟩) (fun g5 => ?_)
  refine Br.mk (fun g6 => ⟨none, out fun hn => by unfold cropIn at hn; omega⟩) (fun g6 => ?_)
  refine Ar.fit (by omega) ?_
  refine Br.mk (fun g7 => ⟨none, out fun hn => by unfold cropIn at hn; omega⟩) (fun g7 => ?_)
  refine Ar.fit (by omega) ?_
  refine Br.mk (fun g8 => ⟨none, out fun hn => by unfold cropIn at hn; omega⟩) (fun g8 => ?_)
  have hin : cropIn m x y w h := ⟨by omega, by omega, by omega, by omega, by omega, by omega⟩
  have hc' : c = (⟨w, h, cropPx m x y w h.toNat⟩, 0) := by rw [← hc, crop, if_neg h1, if_neg (fun hn => hn hin)]
  clear bad out hc
  subst hc'
  refine ⟨Nat, fun i => ⟨[(13, i64 (y + i)), (1, i64 x), (2, i64 y), (3, i64 w), (4, i64 h), (5, .loc 0 0), (10, .loc 1 0), (12, .loc 2 0)],
    [(3, .arr 37 pixE 4 (cropPx m x y w i)), (2, .box 28 [i64 w, i64 h, .own 3]), (1, .box 28 [i64 0, i64 0, .val (.slice none 0 0)]), (0, .box 28 (imgE m))], 4, 96, 0⟩,
    fun i => (i : Int) ≤ h, fun i => (h - i).toNat, 0, ?_, ?_, ?_⟩
  · show (0 : Int) ≤ h; omega
  · exact sub_of [(0, some 0), (1, some 1), (2, some 2), (3, none)] rfl rfl rfl ⟨by simp [ren]; rfl, rfl, rfl, rfl, rfl, rfl, rfl, rfl, trivial⟩ ⟨rfl, rfl, rfl, rfl, trivial⟩
  rintro i hi
  refine Ar.fit (by omega) ?_
  refine Br.mk (fun g9 => ?_) (fun g9 => ?_)
  · have hb := place_lt (a := x) (b := y + i) (w := m.w) (h := m.h) ⟨by omega, by omega⟩ ⟨by omega, by omega⟩ m4
    have hb2 : (y + i) * m.w + x + w ≤ m.px.length := by
      have e : (y + i + 1) * m.w ≤ m.h * m.w := Int.mul_le_mul_of_nonneg_right (by omega) (by omega)
      rw [Int.add_mul, Int.one_mul, Int.mul_comm m.h m.w] at e
      omega
    refine Ar.fit (by omega) ?_
    refine Ar.fit (by omega) ?_
    refine Dr.mk (by decide +kernel) ?_
    refine Ar.fit (by omega) ?_
    refine Ar.fit (by omega) ?_
    refine Ob.mk ⟨by omega, fun _ _ => rfl⟩ ?_
    have hlen := cropPx_len m x y w i
    have hiw : i * w.toNat ≤ 4096 * 4096 := Nat.mul_le_mul (by omega) (by omega)
    generalize hq : (y + i) * m.w = q at *
    have htk : (((m.px.drop (q + x).toNat).take (q + x + w - (q + x)).toNat).length : Int) ≤ w := by simp only [List.length_take]; omega
    refine ⟨_, rfl, Ob.mk ⟨(by show _ * (4 : Int) ≤ _; omega), by omega, by decide, fun _ _ => rfl⟩ ?_⟩
    refine Ar.fit (by omega) ?_
    refine ⟨i + 1, (by show ((i + 1 : Nat) : Int) ≤ h; omega), sub_of [(0, some 0), (1, some 1), (2, some 2), (3, some 4)] rfl rfl rfl
      ⟨congrArg (fun n => some (i64 n)) (show y + i + 1 = y + ((i + 1 : Nat) : Int) by omega), rfl, rfl, rfl, rfl, rfl, rfl, rfl, trivial⟩
      ⟨congrArg (fun l => some (Mem.arr 37 pixE 4 l)) (by rw [cropPx_succ, hq, show (q + x + w - (q + x)) = w by omega]), rfl, rfl, rfl, trivial⟩, (by dsimp only; omega)⟩
  · have hih : i = h.toNat := by omega
    exact ⟨some 3, take_tup (.cons (take_agg (.cons (take_int rfl) (.cons (take_int rfl) (.cons (.own _ rfl) .nil)))) (.cons (take_int rfl) .nil)), by rw [hih]; rfl, fun _ _ => rfl⟩

end Go.Gs
