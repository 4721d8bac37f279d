/- Samples of a picture, the program's. -/
import Derived.Test.YtjfbljononkmcaaGreatImgA
import Derived.Test.YtjfbljononkmcaaGreatNumR
import Derived.Test.YtjfbljononkmcaaGreatNumA
import Derived.Test.YtjfbljononkmcaaGreatLemA
namespace Go.Gs
open Go.Proofs

theorem and_255 {q : Int} : bitsK .and .i64 q 255 = q % 256 := and_low (q := q) 8 (by decide)
theorem int_len {n : Int} (h : R64 n) : (ofQ (n : Rat)).len ≤ 2 := by
  have h1 := qlen_int n
  have h2 := zlen_i64 h
  rw [ofQ_len]; omega
theorem floor_len (q : Rat) : zlen q.floor ≤ qlen q := Nat.le_trans (zlen_mono (by
    rw [Rat.floor_def]
    exact Int.natAbs_ediv_le_natAbs _ _)) (qlen_num q)

def nearQ (x : Rat) : Prop := ((-1073741824 : Int) : Rat) ≤ x ∧ x ≤ ((1073741824 : Int) : Rat)
instance (x : Rat) : Decidable (nearQ x) := inferInstanceAs (Decidable (_ ∧ _))

theorem c_inear (a : BR) (ha : a.len ≤ 10000000) : CallsG Tryz.prog 21 [.agg (brE a)] [] (pr (nearQ a.v)) [] := by
  have l1 := int_len (show R64 (-1073741824) by decide)
  have l2 := int_len (show R64 1073741824 by decide)
  refine calls_to tok mix Tryz.func21 rfl rfl rfl ?_
  refine Dr.mk (by decide +kernel) ?_
  refine CallV.to _ (q_fromint (-1073741824) (by decide)) rfl ?_
  refine CallV.to _ (q_cmp a (ofQ ((-1073741824 : Int) : Rat)) (by omega) (by omega)) rfl ?_
  rw [ofQ_v]
  refine Br.mk (fun h1 => ?_) (fun h1 => ?_)
  · refine CallV.to _ (q_fromint 1073741824 (by decide)) rfl ?_
    refine CallV.to _ (q_cmp a (ofQ ((1073741824 : Int) : Rat)) (by omega) (by omega)) rfl ?_
    rw [ofQ_v]
    exact LE_pr ⟨fun h2 => ⟨cmpQ_ge.1 h1, cmpQ_le.1 h2⟩, fun h => cmpQ_le.2 h.2⟩
  · exact LE_false fun h => h1 (cmpQ_ge.2 h.1)

/-- A coordinate rounded down. -/
def flo (x : Rat) : Int := fitI x.floor
theorem c_floor (a : BR) (ha : a.len ≤ 10000000) : CallsG Tryz.prog 49 [.agg (brE a)] [] (i64 (flo a.v)) [] := by
  have l1 := qlen_v a
  have l2 := floor_len a.v
  refine calls_to tok mix Tryz.func49 rfl rfl rfl ?_
  refine CallV.to _ (q_floor a (by omega)) rfl ?_
  refine CallV.to _ (z_toint (ofZ a.v.floor) (by rw [ofZ_len]; omega)) rfl ?_
  rw [ofZ_v]
  exact .refl
theorem fit_r64 (z : Int) : R64 (fitI z) := by
  unfold fitI R64; split <;> omega
theorem flo_r64 (x : Rat) : R64 (flo x) := fit_r64 _

theorem c_inearest (m : Img) (md : Int) (a b : BR) (hm : imgOK m) (ha : a.len ≤ 10000000) (hb : b.len ≤ 10000000) :
    CallsG Tryz.prog 23 [.agg (imgE m), i64 md, .agg (brE a), .agg (brE b)] [] (.agg (pixE (texelI m (flo a.v) (flo b.v) md))) [] := by
  refine calls_to tok mix Tryz.func23 rfl rfl rfl ?_
  refine Dr.mk (by decide +kernel) ?_
  refine CallV.to _ (c_floor a ha) rfl ?_
  refine CallV.to _ (c_floor b hb) rfl ?_
  refine CallV.to _ (c_texel0 m (flo a.v) (flo b.v) md hm (flo_r64 _) (flo_r64 _)) rfl ?_
  exact .refl

/-- 256 times the distance from the middle of the first pixel, rounded down. -/
def fineQ (x : Rat) : Int := flo (((256 : Int) : Rat) * (x - Rat.divInt 1 2))
theorem half_len : (ofQ (Rat.divInt 1 2)).len ≤ 1 := by decide +kernel
theorem c_smooth1 (a : BR) (ha : a.len ≤ 1000000) :
    CallsG Tryz.prog 48 [.agg (brE a), .ptr (brE (ofQ (Rat.divInt 1 2)))] [] (.tup [i64 (fineQ a.v / 256), i64 (fineQ a.v % 256)]) [] := by
  have l1 := int_len (show R64 256 by decide)
  have l2 := half_len
  have l3 := qlen_v a
  have l4 : qlen (Rat.divInt 1 2) ≤ 1 := half_len
  have l5 := qlen_sub a.v (Rat.divInt 1 2)
  have l6 : qlen ((256 : Int) : Rat) ≤ 2 := l1
  have l7 := qlen_mul ((256 : Int) : Rat) (a.v - Rat.divInt 1 2)
  refine calls_to tok mix Tryz.func48 rfl rfl rfl ?_
  refine Dr.mk (by decide +kernel) ?_
  refine CallV.to _ (q_fromint 256 (by decide)) rfl ?_
  refine CallV.to _ (q_sub a (ofQ (Rat.divInt 1 2)) (by omega) (by omega)) rfl ?_
  rw [ofQ_v]
  refine CallV.to _ (q_mul (ofQ ((256 : Int) : Rat)) (ofQ (a.v - Rat.divInt 1 2)) (by omega) (by rw [ofQ_len]; omega)) rfl ?_
  rw [ofQ_v, ofQ_v]
  refine CallV.to _ (c_floor (ofQ (((256 : Int) : Rat) * (a.v - Rat.divInt 1 2))) (by rw [ofQ_len]; omega)) rfl ?_
  rw [ofQ_v]
  refine Ob.mk (by decide) ?_
  refine ⟨_, and_255.symm, ?_⟩
  exact .refl

/-- The sums of four weighted numbers. -/
def accW (W V : Nat → Int) : Nat → Int
  | 0 => 0
  | n + 1 => accW W V n + W n * V n
def bR (s : Int) : Int := rdiv s 65536
theorem bR_range {s : Int} (h : 0 ≤ s ∧ s ≤ 16711680) : 0 ≤ bR s ∧ bR s ≤ 255 := by
  unfold bR rdiv
  rw [if_pos (by omega), show Int.natAbs 65536 = 65536 from rfl]
  omega
theorem c_by (s0 s1 s2 s3 s : Int) (c : Nat) (hc : [s0, s1, s2, s3][c]? = some s) (hs : 0 ≤ s ∧ s ≤ 16711680) : CallsG Tryz.prog 52 [i64 c, .ptr [i64 s0, i64 s1, i64 s2, i64 s3]] [] (u8 (bR s)) [] := by
  have hr := bR_range hs
  have fin : fitI (rdiv s 65536) = bR s := by
    unfold bR at *; unfold fitI; rw [if_pos (by omega)]
  have hc4 : c < 4 := (List.getElem?_eq_some_iff.1 hc).1
  have e : c = 0 ∨ c = 1 ∨ c = 2 ∨ c = 3 := by omega
  rcases e with rfl | rfl | rfl | rfl
  · cases hc
    refine calls_to tok mix Tryz.func52 rfl rfl rfl ?_
    refine CallV.to _ (c_divround s0 65536 (by unfold R64; omega) (by decide)) rfl ?_
    rw [fin]
    refine Ar.fit (by omega) ?_
    exact .refl
  · cases hc
    refine calls_to tok mix Tryz.func52 rfl rfl rfl ?_
    refine CallV.to _ (c_divround s1 65536 (by unfold R64; omega) (by decide)) rfl ?_
    rw [fin]
    refine Ar.fit (by omega) ?_
    exact .refl
  · cases hc
    refine calls_to tok mix Tryz.func52 rfl rfl rfl ?_
    refine CallV.to _ (c_divround s2 65536 (by unfold R64; omega) (by decide)) rfl ?_
    rw [fin]
    refine Ar.fit (by omega) ?_
    exact .refl
  · cases hc
    refine calls_to tok mix Tryz.func52 rfl rfl rfl ?_
    refine CallV.to _ (c_divround s3 65536 (by unfold R64; omega) (by decide)) rfl ?_
    rw [fin]
    refine Ar.fit (by omega) ?_
    exact .refl

end Go.Gs
/- Samples of a picture, the program's: between four pixels. -/
namespace Go.Gs
open Go.Proofs

def wgt (f g : Int) : Nat → Int
  | 0 => (256 - f) * (256 - g)
  | 1 => f * (256 - g)
  | 2 => (256 - f) * g
  | _ => f * g
def px4 (m : Img) (md i k : Int) (n : Nat) : Pix := texelI m (i + (n : Int) % 2) (k + (n : Int) / 2) md
def P8 (p : Pix) : Prop := R8 p.r ∧ R8 p.g ∧ R8 p.b ∧ R8 p.a
theorem texelI_P8 {m : Img} (h : ∀ q ∈ m.px, P8 q) (x y md : Int) : P8 (texelI m x y md) := by
  unfold texelI
  split
  · rw [List.getD_eq_getElem?_getD]
    cases hq : m.px[((wrapI y m.h md).1 * m.w + (wrapI x m.w md).1).toNat]? with
    | none => exact ⟨by decide, by decide, by decide, by decide⟩
    | some q => exact h q (List.mem_of_getElem? hq)
  · exact ⟨by decide, by decide, by decide, by decide⟩
theorem wgt_range {f g : Int} (hf : 0 ≤ f ∧ f ≤ 255) (hg : 0 ≤ g ∧ g ≤ 255) (n : Nat) : 0 ≤ wgt f g n ∧ wgt f g n ≤ 65536 := by
  have key : ∀ a b : Int, 0 ≤ a → a ≤ 256 → 0 ≤ b → b ≤ 256 → 0 ≤ a * b ∧ a * b ≤ 65536 := fun a b h1 h2 h3 h4 => by
    have h5 := Int.mul_nonneg h1 h3
    have h6 : a * b ≤ 256 * b := Int.mul_le_mul_of_nonneg_right h2 h3
    omega
  match n with
  | 0 => exact key _ _ (by omega) (by omega) (by omega) (by omega)
  | 1 => exact key _ _ (by omega) (by omega) (by omega) (by omega)
  | 2 => exact key _ _ (by omega) (by omega) (by omega) (by omega)
  | _ + 3 => exact key _ _ (by omega) (by omega) (by omega) (by omega)
theorem wgt_sum (f g : Int) : wgt f g 0 + wgt f g 1 + wgt f g 2 + wgt f g 3 = 65536 := by
  unfold wgt
  grind
theorem wv_range {w v : Int} (hw : 0 ≤ w ∧ w ≤ 65536) (hv : R8 v) : 0 ≤ w * v ∧ w * v ≤ w * 255 ∧ w * v ≤ 16711680 := by
  have h1 := Int.mul_nonneg hw.1 hv.1
  have h2 : w * v ≤ w * 255 := Int.mul_le_mul_of_nonneg_left hv.2 hw.1
  omega
theorem acc_range {W V : Nat → Int} (hw : ∀ n, 0 ≤ W n ∧ W n ≤ 65536) (hv : ∀ n, R8 (V n)) : ∀ n, 0 ≤ accW W V n ∧ accW W V n ≤ 16711680 * n
  | 0 => ⟨Int.le_refl _, Int.le_refl _⟩
  | n + 1 => by
    have h1 := acc_range hw hv n
    have h2 := wv_range (hw n) (hv n)
    unfold accW
    omega
theorem acc4 {f g : Int} (hf : 0 ≤ f ∧ f ≤ 255) (hg : 0 ≤ g ∧ g ≤ 255) {V : Nat → Int} (hv : ∀ n, R8 (V n)) : 0 ≤ accW (wgt f g) V 4 ∧ accW (wgt f g) V 4 ≤ 16711680 := by
  have h0 := wv_range (wgt_range hf hg 0) (hv 0)
  have h1 := wv_range (wgt_range hf hg 1) (hv 1)
  have h2 := wv_range (wgt_range hf hg 2) (hv 2)
  have h3 := wv_range (wgt_range hf hg 3) (hv 3)
  have hs := wgt_sum f g
  show 0 ≤ 0 + wgt f g 0 * V 0 + wgt f g 1 * V 1 + wgt f g 2 * V 2 + wgt f g 3 * V 3 ∧ 0 + wgt f g 0 * V 0 + wgt f g 1 * V 1 + wgt f g 2 * V 2 + wgt f g 3 * V 3 ≤ _
  generalize wgt f g 0 = w0 at *
  generalize wgt f g 1 = w1 at *
  generalize wgt f g 2 = w2 at *
  generalize wgt f g 3 = w3 at *
  omega
/-- The four sums behind some rounds. -/
def sumP (W : Nat → Int) (Q : Nat → Pix) (n : Nat) : Pix := ⟨accW W (fun j => (Q j).r) n, accW W (fun j => (Q j).g) n, accW W (fun j => (Q j).b) n, accW W (fun j => (Q j).a) n⟩
def smoothP (m : Img) (md : Int) (x y : Rat) : Pix :=
  let s := sumP (wgt (fineQ x % 256) (fineQ y % 256)) (px4 m md (fineQ x / 256) (fineQ y / 256)) 4
  ⟨bR s.r, bR s.g, bR s.b, bR s.a⟩
def compL (p : Pix) : List Int := [p.r, p.g, p.b, p.a]
def i64E (n : Int) : List SV := [i64 n]
def u8E (n : Int) : List SV := [u8 n]

set_option maxRecDepth 100000 in
set_option maxHeartbeats 4000000 in
theorem c_smooth (m : Img) (md : Int) (a b : BR) (hm : imgOK m) (h8 : ∀ q ∈ m.px, P8 q) (ha : a.len ≤ 1000000) (hb : b.len ≤ 1000000) :
    CallsG Tryz.prog 22 [.agg (imgE m), i64 md, .agg (brE a), .agg (brE b)] [] (.agg (pixE (smoothP m md a.v b.v))) [] := by
  refine calls_to tok mix Tryz.func22 rfl rfl rfl ?_
  refine CallV.to _ (q_fromints 1 2 (by decide) (by decide) (by decide)) rfl ?_
  refine CallV.to _ (c_smooth1 a ha) rfl ?_
  refine CallV.to _ (c_smooth1 b hb) rfl ?_
  unfold smoothP
  have ru := flo_r64 (((256 : Int) : Rat) * (a.v - Rat.divInt 1 2))
  have rv := flo_r64 (((256 : Int) : Rat) * (b.v - Rat.divInt 1 2))
  have eu : fineQ a.v = flo (((256 : Int) : Rat) * (a.v - Rat.divInt 1 2)) := rfl
  have ev : fineQ b.v = flo (((256 : Int) : Rat) * (b.v - Rat.divInt 1 2)) := rfl
  rw [← eu] at ru
  rw [← ev] at rv
  clear eu ev
  generalize fineQ a.v = u at *
  generalize fineQ b.v = v at *
  unfold R64 at ru rv
  have hi : -36028797018963968 ≤ u / 256 ∧ u / 256 ≤ 36028797018963967 := by omega
  have hk : -36028797018963968 ≤ v / 256 ∧ v / 256 ≤ 36028797018963967 := by omega
  have hf : 0 ≤ u % 256 ∧ u % 256 ≤ 255 := by omega
  have hg : 0 ≤ v % 256 ∧ v % 256 ≤ 255 := by omega
  generalize u / 256 = i at *
  generalize v / 256 = k at *
  generalize u % 256 = f at *
  generalize v % 256 = g at *
  have hW := wgt_range hf hg
  have w0 : 0 ≤ (256 - f) * (256 - g) ∧ (256 - f) * (256 - g) ≤ 65536 := hW 0
  have w1 : 0 ≤ f * (256 - g) ∧ f * (256 - g) ≤ 65536 := hW 1
  have w2 : 0 ≤ (256 - f) * g ∧ (256 - f) * g ≤ 65536 := hW 2
  have w3 : 0 ≤ f * g ∧ f * g ≤ 65536 := hW 3
  refine Ar.fit (by omega) ?_
  refine Ar.fit (by omega) ?_
  refine Ar.fit (by omega) ?_
  refine Ar.fit (by omega) ?_
  refine Ar.fit (by omega) ?_
  refine Ar.fit (by omega) ?_
  refine Ar.fit (by omega) ?_
  refine Ar.fit (by omega) ?_
  have hQ8 : ∀ n, P8 (px4 m md i k n) := fun n => texelI_P8 h8 _ _ _
  have hws : ∀ (n : Nat) x, [(256 - f) * (256 - g), f * (256 - g), (256 - f) * g, f * g][n]? = some x → x = wgt f g n := fun n x hx => by
    have : n < 4 := (List.getElem?_eq_some_iff.1 hx).1
    have e : n = 0 ∨ n = 1 ∨ n = 2 ∨ n = 3 := by omega
    rcases e with rfl | rfl | rfl | rfl <;> (cases hx; rfl)
  refine ⟨Int, i64E, [(256 - f) * (256 - g), f * (256 - g), (256 - f) * g, f * g], rfl, Ob.mk ⟨rfl, by decide, by decide, by decide, fun x _ => ⟨rfl, rfl, rfl⟩⟩ ?_⟩
  have hwl : [(256 - f) * (256 - g), f * (256 - g), (256 - f) * g, f * g].length = 4 := rfl
  generalize [(256 - f) * (256 - g), f * (256 - g), (256 - f) * g, f * g] = ws at *
  have hT : ∀ n, CallsG Tryz.prog 38 [.agg (imgE m), i64 (i + (n : Nat) % 2), i64 (k + (n : Nat) / 2), i64 md] [] (.agg (pixE (px4 m md i k n))) [] ∨ 4 ≤ n := fun n => by
    by_cases h : 4 ≤ n
    · exact .inr h
    · exact .inl (c_texel0 m _ _ md hm (by unfold R64; omega) (by unfold R64; omega))
  have aR := acc_range hW (fun n => (hQ8 n).1)
  have aG := acc_range hW (fun n => (hQ8 n).2.1)
  have aB := acc_range hW (fun n => (hQ8 n).2.2.1)
  have aA := acc_range hW (fun n => (hQ8 n).2.2.2)
  have oR := fun n => wv_range (hW n) (hQ8 n).1
  have oG := fun n => wv_range (hW n) (hQ8 n).2.1
  have oB := fun n => wv_range (hW n) (hQ8 n).2.2.1
  have oA := fun n => wv_range (hW n) (hQ8 n).2.2.2
  have tR := acc4 hf hg (fun n => (hQ8 n).1)
  have tG := acc4 hf hg (fun n => (hQ8 n).2.1)
  have tB := acc4 hf hg (fun n => (hQ8 n).2.2.1)
  have tA := acc4 hf hg (fun n => (hQ8 n).2.2.2)
  generalize px4 m md i k = Q at *
  generalize wgt f g = W at *
  intro hl1
  refine ⟨Nat, fun n => ⟨[(58, i64 n), (57, i64 ws.length), (56, .own 6), (16, .loc 5 0), (14, i64 k), (12, i64 i), (8, .loc 3 0), (4, .loc 0 0), (1, i64 md)], [(6, .arr 3 i64E 1 ws), (5, .box 70 [i64 (sumP W Q n).r, i64 (sumP W Q n).g, i64 (sumP W Q n).b, i64 (sumP W Q n).a]), (3, .box 36 (pixE zeroP)), (0, .box 24 (imgE m))], 7, 110, 0⟩, fun n => n ≤ 4, fun n => 4 - n, 0, Nat.zero_le _, ?_, ?_⟩
  · exact sub_of [(0, some 0), (3, some 3), (5, some 5), (6, some 6)] rfl rfl rfl ⟨rfl, rfl, rfl, rfl, rfl, rfl, rfl, rfl, rfl, trivial⟩ ⟨rfl, rfl, rfl, rfl, trivial⟩
  rintro n hn
  have hn : n ≤ 4 := hn
  refine Br.mk (fun h1 => ?_) (fun h1 => ?_)
  · have h1 : n < 4 := by omega
    refine Ob.mk (by omega) ?_
    refine Ob.mk (by omega) ?_
    intro w hw
    have hw : ws[n]? = some w := hw
    have hw := hws n w hw
    subst hw
    refine ⟨_, and_one.symm, ?_⟩
    refine Ar.fit (by omega) ?_
    refine Ob.mk (by decide) ?_
    refine Ar.fit (by show _ ≤ k + (n : Int) / 2 ∧ k + (n : Int) / 2 ≤ _; omega) ?_
    refine CallV.to _ ((hT n).resolve_right (by omega)) rfl ?_
    refine ⟨Int, u8E, compL (Q n), rfl, Ob.mk ⟨rfl, by decide, by decide, by decide, fun x _ => ⟨rfl, rfl, rfl⟩⟩ ?_⟩
    intro hl2
    have h8n := hQ8 n
    have hc4 : (compL (Q n)).length = 4 := rfl
    refine ⟨Nat, fun c => ⟨[(84, i64 c), (83, i64 4), (82, .own 7), (18, i64 (W n)), (58, i64 n), (57, i64 ws.length), (56, .own 6), (16, .loc 5 0), (14, i64 k), (12, i64 i), (8, .loc 3 0), (4, .loc 0 0), (1, i64 md)], [(7, .arr 5 u8E 1 (compL (Q n))), (6, .arr 3 i64E 1 ws), (5, .box 70 [i64 (if 1 ≤ c then (sumP W Q (n + 1)).r else (sumP W Q n).r), i64 (if 2 ≤ c then (sumP W Q (n + 1)).g else (sumP W Q n).g), i64 (if 3 ≤ c then (sumP W Q (n + 1)).b else (sumP W Q n).b), i64 (if 4 ≤ c then (sumP W Q (n + 1)).a else (sumP W Q n).a)]), (3, .box 36 (pixE zeroP)), (0, .box 24 (imgE m))], 8, 110, 0⟩, fun c => c ≤ 4, fun c => 4 - c, 0, Nat.zero_le _, ?_, ?_⟩
    · exact sub_of [(0, some 0), (3, some 3), (5, some 5), (6, some 6), (7, some 8)] rfl rfl rfl ⟨rfl, rfl, rfl, rfl, rfl, rfl, rfl, rfl, rfl, rfl, rfl, rfl, rfl, trivial⟩ ⟨rfl, rfl, rfl, rfl, rfl, trivial⟩
    rintro c hc
    have hc : c ≤ 4 := hc
    have e : c = 0 ∨ c = 1 ∨ c = 2 ∨ c = 3 ∨ c = 4 := by omega
    rcases e with rfl | rfl | rfl | rfl | rfl

    · refine Br.mk (fun _ => ?_) (fun h => absurd (by decide) h)
      have h1 := aR n
      have h2 := oR n
      have h3 : R8 (Q n).r := h8n.1
      refine Ob.mk (by omega) ?_
      refine Ob.mk (by omega) ?_
      intro z hz
      cases hz
      refine Ar.fit (by unfold R8 at h3; omega) ?_
      refine Ar.fit (by omega) ?_
      refine Ar.fit (by show _ ≤ accW W (fun j => (Q j).r) n + W n * (Q n).r ∧ accW W (fun j => (Q j).r) n + W n * (Q n).r ≤ _; omega) ?_
      refine Ar.fit (by decide) ?_
      exact ⟨1, by show 1 ≤ 4; decide, sub_of [(0, some 0), (3, some 3), (5, some 5), (6, some 6), (7, some 7)] rfl rfl rfl ⟨rfl, rfl, rfl, rfl, rfl, rfl, rfl, rfl, rfl, rfl, rfl, rfl, rfl, trivial⟩ ⟨rfl, rfl, rfl, rfl, rfl, trivial⟩, by decide⟩
    · refine Br.mk (fun _ => ?_) (fun h => absurd (by decide) h)
      have h1 := aG n
      have h2 := oG n
      have h3 : R8 (Q n).g := h8n.2.1
      refine Ob.mk (by omega) ?_
      refine Ob.mk (by omega) ?_
      intro z hz
      cases hz
      refine Ar.fit (by unfold R8 at h3; omega) ?_
      refine Ar.fit (by omega) ?_
      refine Ar.fit (by show _ ≤ accW W (fun j => (Q j).g) n + W n * (Q n).g ∧ accW W (fun j => (Q j).g) n + W n * (Q n).g ≤ _; omega) ?_
      refine Ar.fit (by decide) ?_
      exact ⟨2, by show 2 ≤ 4; decide, sub_of [(0, some 0), (3, some 3), (5, some 5), (6, some 6), (7, some 7)] rfl rfl rfl ⟨rfl, rfl, rfl, rfl, rfl, rfl, rfl, rfl, rfl, rfl, rfl, rfl, rfl, trivial⟩ ⟨rfl, rfl, rfl, rfl, rfl, trivial⟩, by decide⟩
    · refine Br.mk (fun _ => ?_) (fun h => absurd (by decide) h)
      have h1 := aB n
      have h2 := oB n
      have h3 : R8 (Q n).b := h8n.2.2.1
      refine Ob.mk (by omega) ?_
      refine Ob.mk (by omega) ?_
      intro z hz
      cases hz
      refine Ar.fit (by unfold R8 at h3; omega) ?_
      refine Ar.fit (by omega) ?_
      refine Ar.fit (by show _ ≤ accW W (fun j => (Q j).b) n + W n * (Q n).b ∧ accW W (fun j => (Q j).b) n + W n * (Q n).b ≤ _; omega) ?_
      refine Ar.fit (by decide) ?_
      exact ⟨3, by show 3 ≤ 4; decide, sub_of [(0, some 0), (3, some 3), (5, some 5), (6, some 6), (7, some 7)] rfl rfl rfl ⟨rfl, rfl, rfl, rfl, rfl, rfl, rfl, rfl, rfl, rfl, rfl, rfl, rfl, trivial⟩ ⟨rfl, rfl, rfl, rfl, rfl, trivial⟩, by decide⟩
    · refine Br.mk (fun _ => ?_) (fun h => absurd (by decide) h)
      have h1 := aA n
      have h2 := oA n
      have h3 : R8 (Q n).a := h8n.2.2.2
      refine Ob.mk (by omega) ?_
      refine Ob.mk (by omega) ?_
      intro z hz
      cases hz
      refine Ar.fit (by unfold R8 at h3; omega) ?_
      refine Ar.fit (by omega) ?_
      refine Ar.fit (by show _ ≤ accW W (fun j => (Q j).a) n + W n * (Q n).a ∧ accW W (fun j => (Q j).a) n + W n * (Q n).a ≤ _; omega) ?_
      refine Ar.fit (by decide) ?_
      exact ⟨4, by show 4 ≤ 4; decide, sub_of [(0, some 0), (3, some 3), (5, some 5), (6, some 6), (7, some 7)] rfl rfl rfl ⟨rfl, rfl, rfl, rfl, rfl, rfl, rfl, rfl, rfl, rfl, rfl, rfl, rfl, trivial⟩ ⟨rfl, rfl, rfl, rfl, rfl, trivial⟩, by decide⟩
    · refine Br.mk (fun h => absurd h (by decide)) (fun _ => ?_)
      refine Ar.fit (by omega) ?_
      exact ⟨n + 1, by show n + 1 ≤ 4; omega, sub_of [(0, some 0), (3, some 3), (5, some 5), (6, some 6)] rfl rfl rfl ⟨rfl, rfl, rfl, rfl, rfl, rfl, rfl, rfl, rfl, trivial⟩ ⟨rfl, rfl, rfl, rfl, trivial⟩, by dsimp only; omega⟩
  · have hn4 : n = 4 := by omega
    subst hn4
    refine CallV.to _ (c_by _ _ _ _ (sumP W Q 4).r 0 rfl tR) rfl ?_
    refine CallV.to _ (c_by _ _ _ _ (sumP W Q 4).g 1 rfl tG) rfl ?_
    refine CallV.to _ (c_by _ _ _ _ (sumP W Q 4).b 2 rfl tB) rfl ?_
    refine CallV.to _ (c_by _ _ _ _ (sumP W Q 4).a 3 rfl tA) rfl ?_
    exact .refl

end Go.Gs
/- Samples of a picture, the program's: Sample. -/
namespace Go.Gs
open Go.Proofs

def smp (m : Img) (look md : Int) (x y : Rat) : Pix :=
  if (look = 1 ∨ look = 2) ∧ imgOK m ∧ nearQ x ∧ nearQ y then (if look = 2 then smoothP m md x y else texelI m (flo x) (flo y) md) else zeroP

set_option maxRecDepth 100000 in
set_option maxHeartbeats 4000000 in
theorem c_sample (m : Img) (look md : Int) (a b : BR) (hl : m.px.length ≤ 9223372036854775807) (h8 : ∀ q ∈ m.px, P8 q) (ha : a.len ≤ 1000000) (hb : b.len ≤ 1000000) :
    CallsG Tryz.prog 8 [.agg (imgE m), i64 look, i64 md, .agg (brE a), .agg (brE b)] [] (.agg (pixE (smp m look md a.v b.v))) [] := by
  refine calls_to tok mix Tryz.func8 rfl rfl rfl ?_
  have no : ¬ ((look = 1 ∨ look = 2) ∧ imgOK m ∧ nearQ a.v ∧ nearQ b.v) → LE (.agg (pixE zeroP)) (.agg (pixE (smp m look md a.v b.v))) := fun h => by
    unfold smp; rw [if_neg h]; exact .refl
  refine Br.mk (fun h => absurd h (by decide)) (fun _ => ?_)
  refine Br.mk (fun e => ?_) (fun e => ?_)
  · refine CallV.to _ (c_valid m hl) rfl ?_
    refine Br.mk (fun h1 => no fun h => h1 h.2.1) (fun h1 => ?_)
    have h1 := Decidable.not_not.1 h1
    refine CallV.to _ (c_inear a (by omega)) rfl ?_
    refine Br.mk (fun h2 => no fun h => h2 h.2.2.1) (fun h2 => ?_)
    have h2 := Decidable.not_not.1 h2
    refine CallV.to _ (c_inear b (by omega)) rfl ?_
    refine Br.mk (fun h3 => no fun h => h3 h.2.2.2) (fun h3 => ?_)
    have h3 := Decidable.not_not.1 h3
    refine CallV.to _ (c_inearest m md a b h1 (by omega) (by omega)) rfl ?_
    have : smp m look md a.v b.v = texelI m (flo a.v) (flo b.v) md := by
      unfold smp; rw [if_pos ⟨.inl e, h1, h2, h3⟩, if_neg (by omega)]
    rw [this]
    exact .refl
  refine Br.mk (fun e2 => ?_) (fun e2 => ?_)
  · refine CallV.to _ (c_valid m hl) rfl ?_
    refine Br.mk (fun h1 => no fun h => h1 h.2.1) (fun h1 => ?_)
    have h1 := Decidable.not_not.1 h1
    refine CallV.to _ (c_inear a (by omega)) rfl ?_
    refine Br.mk (fun h2 => no fun h => h2 h.2.2.1) (fun h2 => ?_)
    have h2 := Decidable.not_not.1 h2
    refine CallV.to _ (c_inear b (by omega)) rfl ?_
    refine Br.mk (fun h3 => no fun h => h3 h.2.2.2) (fun h3 => ?_)
    have h3 := Decidable.not_not.1 h3
    refine CallV.to _ (c_smooth m md a b h1 h8 ha hb) rfl ?_
    have : smp m look md a.v b.v = smoothP m md a.v b.v := by
      unfold smp; rw [if_pos ⟨.inr e2, h1, h2, h3⟩, if_pos e2]
    rw [this]
    exact .refl
  · exact no fun h => h.1.elim e e2

end Go.Gs
/- Samples of a picture, the other text's; the law. -/
namespace Go.Gs
open Go.Proofs

theorem c_inrange (a : BR) (ha : a.len ≤ 10000000) : CallsG Tryz.prog 24 [.agg (brE a)] [] (pr (nearQ a.v)) [] := by
  have l1 := int_len (show R64 (-1073741824) by decide)
  have l2 := int_len (show R64 1073741824 by decide)
  refine calls_to tok mix Tryz.func24 rfl rfl rfl ?_
  refine Dr.mk (by decide +kernel) ?_
  refine CallV.to _ (r3_fromInt 1073741824 (by decide)) rfl ?_
  refine CallV.to _ (r3_cmp a (ofQ ((1073741824 : Int) : Rat)) (by omega) (by omega)) rfl ?_
  rw [ofQ_v]
  refine Br.mk (fun h1 => ?_) (fun h1 => ?_)
  · refine CallV.to _ (r3_fromInt (-1073741824) (by decide)) rfl ?_
    refine CallV.to _ (r3_cmp a (ofQ ((-1073741824 : Int) : Rat)) (by omega) (by omega)) rfl ?_
    rw [ofQ_v]
    exact LE_pr ⟨fun h2 => ⟨cmpQ_ge.1 h2, cmpQ_le.1 h1⟩, fun h => cmpQ_ge.2 h.1⟩
  · exact LE_false fun h => h1 (cmpQ_le.2 h.2)

theorem c_rfloor (a : BR) (ha : a.len ≤ 10000000) : CallsG Tryz.prog 26 [.agg (brE a)] [] (i64 (flo a.v)) [] := by
  have l1 := qlen_v a
  have l2 := floor_len a.v
  refine calls_to tok mix Tryz.func26 rfl rfl rfl ?_
  refine CallV.to _ (r3_floor a (by omega)) rfl ?_
  refine CallV.to _ (r2_toint (ofZ a.v.floor) (by rw [ofZ_len]; omega)) rfl ?_
  rw [ofZ_v]
  exact .refl

theorem c_rfine (a : BR) (ha : a.len ≤ 1000000) : CallsG Tryz.prog 28 [.agg (brE a)] [] (i64 (fineQ a.v)) [] := by
  have l1 := int_len (show R64 256 by decide)
  have l2 := half_len
  have l3 := qlen_v a
  have l4 : qlen (Rat.divInt 1 2) ≤ 1 := half_len
  have l5 := qlen_sub a.v (Rat.divInt 1 2)
  have l6 : qlen ((256 : Int) : Rat) ≤ 2 := l1
  have l7 := qlen_mul ((256 : Int) : Rat) (a.v - Rat.divInt 1 2)
  refine calls_to tok mix Tryz.func28 rfl rfl rfl ?_
  refine CallV.to _ (r3_fromints 1 2 (by decide) (by decide) (by decide)) rfl ?_
  refine Dr.mk (by decide +kernel) ?_
  refine CallV.to _ (r3_fromInt 256 (by decide)) rfl ?_
  refine CallV.to _ (r3_sub a (ofQ (Rat.divInt 1 2)) (by omega) (by omega)) rfl ?_
  rw [ofQ_v]
  refine CallV.to _ (r3_mul (ofQ ((256 : Int) : Rat)) (ofQ (a.v - Rat.divInt 1 2)) (by omega) (by rw [ofQ_len]; omega)) rfl ?_
  rw [ofQ_v, ofQ_v]
  refine CallV.to _ (c_rfloor (ofQ (((256 : Int) : Rat) * (a.v - Rat.divInt 1 2))) (by rw [ofQ_len]; omega)) rfl ?_
  rw [ofQ_v]
  exact .refl

def lerp (a b c d f g : Int) : Int := (a * (256 - f) + b * f) * (256 - g) + (c * (256 - f) + d * f) * g
theorem lerp_acc (f g : Int) (V : Nat → Int) : lerp (V 0) (V 1) (V 2) (V 3) f g = accW (wgt f g) V 4 := by
  show _ = 0 + wgt f g 0 * V 0 + wgt f g 1 * V 1 + wgt f g 2 * V 2 + wgt f g 3 * V 3
  unfold lerp wgt
  grind
theorem c_interp (V : Nat → Int) (f g : Int) (hf : 0 ≤ f ∧ f ≤ 255) (hg : 0 ≤ g ∧ g ≤ 255) (hv : ∀ n, R8 (V n)) :
    CallsG Tryz.prog 57 [u8 (V 0), u8 (V 1), u8 (V 2), u8 (V 3), i64 f, i64 g] [] (u8 (bR (accW (wgt f g) V 4))) [] := by
  have key : ∀ a b A : Int, R8 a → 0 ≤ b → b ≤ 256 → 0 ≤ a * b ∧ a * b ≤ 65280 := fun a b A h1 h3 h4 => by
    have h5 := Int.mul_nonneg h1.1 h3
    have h6 : a * b ≤ 255 * b := Int.mul_le_mul_of_nonneg_right h1.2 h3
    omega
  have k0 := key (V 0) (256 - f) 0 (hv 0) (by omega) (by omega)
  have k1 := key (V 1) f 0 (hv 1) (by omega) (by omega)
  have k2 := key (V 2) (256 - f) 0 (hv 2) (by omega) (by omega)
  have k3 := key (V 3) f 0 (hv 3) (by omega) (by omega)
  have key2 : ∀ a b : Int, 0 ≤ a → a ≤ 130560 → 0 ≤ b → b ≤ 256 → 0 ≤ a * b ∧ a * b ≤ 33423360 := fun a b h1 h2 h3 h4 => by
    have h5 := Int.mul_nonneg h1 h3
    have h6 : a * b ≤ 130560 * b := Int.mul_le_mul_of_nonneg_right h2 h3
    omega
  have m0 := key2 (V 0 * (256 - f) + V 1 * f) (256 - g) (by omega) (by omega) (by omega) (by omega)
  have m1 := key2 (V 2 * (256 - f) + V 3 * f) g (by omega) (by omega) (by omega) (by omega)
  have ha := acc4 hf hg hv
  have hr := bR_range ha
  have h0 := hv 0
  have h1 := hv 1
  have h2 := hv 2
  have h3 := hv 3
  unfold R8 at h0 h1 h2 h3
  have el : (V 0 * (256 - f) + V 1 * f) * (256 - g) + (V 2 * (256 - f) + V 3 * f) * g = accW (wgt f g) V 4 := lerp_acc f g V
  refine calls_to tok mix Tryz.func57 rfl rfl rfl ?_
  refine Ar.fit (by omega) ?_
  refine Ar.fit (by omega) ?_
  refine Ar.fit (by omega) ?_
  refine Ar.fit (by omega) ?_
  refine Ar.fit (by omega) ?_
  refine Ar.fit (by omega) ?_
  refine Ar.fit (by omega) ?_
  refine Ar.fit (by omega) ?_
  refine Ar.fit (by omega) ?_
  refine Ar.fit (by omega) ?_
  refine Ar.fit (by omega) ?_
  refine Ar.fit (by omega) ?_
  refine Ar.fit (by omega) ?_
  refine Ar.fit (by omega) ?_
  refine Ar.fit (by omega) ?_
  refine Ar.fit (by omega) ?_
  rw [el]
  refine CallV.to _ (r8_divround (accW (wgt f g) V 4) 65536 (by unfold R64; omega) (by decide)) rfl ?_
  rw [show fitI (rdiv (accW (wgt f g) V 4) 65536) = bR (accW (wgt f g) V 4) by unfold bR at *; unfold fitI; rw [if_pos (by omega)]]
  refine Ar.fit (by omega) ?_
  exact .refl

end Go.Gs
/- Samples of a picture, the other text's: Sample; the law. -/
namespace Go.Gs
open Go.Proofs

set_option maxRecDepth 100000 in
set_option maxHeartbeats 4000000 in
theorem c_bilinear (m : Img) (md u v : Int) (hm : imgOK m) (h8 : ∀ q ∈ m.px, P8 q) (ru : R64 u) (rv : R64 v) :
    CallsG Tryz.prog 27 [.agg (imgE m), i64 md, i64 u, i64 v] []
      (.agg [u8 (bR (sumP (wgt (u % 256) (v % 256)) (px4 m md (u / 256) (v / 256)) 4).r), u8 (bR (sumP (wgt (u % 256) (v % 256)) (px4 m md (u / 256) (v / 256)) 4).g),
        u8 (bR (sumP (wgt (u % 256) (v % 256)) (px4 m md (u / 256) (v / 256)) 4).b), u8 (bR (sumP (wgt (u % 256) (v % 256)) (px4 m md (u / 256) (v / 256)) 4).a)]) [] := by
  refine calls_to tok mix Tryz.func27 rfl rfl rfl ?_
  unfold R64 at ru rv
  refine Ob.mk (by decide) ?_
  refine Ob.mk (by decide) ?_
  have eu : u / 2 ^ 8 = u / 256 := rfl
  have ev : v / 2 ^ 8 = v / 256 := rfl
  refine Ar.fit (by show _ ≤ 256 * (u / 256) ∧ 256 * (u / 256) ≤ _; omega) ?_
  refine Ar.fit (by show _ ≤ u - 256 * (u / 256) ∧ u - 256 * (u / 256) ≤ _; omega) ?_
  refine Ar.fit (by show _ ≤ 256 * (v / 256) ∧ 256 * (v / 256) ≤ _; omega) ?_
  refine Ar.fit (by show _ ≤ v - 256 * (v / 256) ∧ v - 256 * (v / 256) ≤ _; omega) ?_
  have fu : u - 256 * (u / 256) = u % 256 := by omega
  have fv : v - 256 * (v / 256) = v % 256 := by omega
  have hi : -36028797018963968 ≤ u / 256 ∧ u / 256 ≤ 36028797018963967 := by omega
  have hk : -36028797018963968 ≤ v / 256 ∧ v / 256 ≤ 36028797018963967 := by omega
  have hf : 0 ≤ u % 256 ∧ u % 256 ≤ 255 := by omega
  have hg : 0 ≤ v % 256 ∧ v % 256 ≤ 255 := by omega
  rw [eu, ev, fu, fv]
  generalize u / 256 = i at *
  generalize v / 256 = k at *
  generalize u % 256 = f at *
  generalize v % 256 = g at *
  have hQ8 : ∀ n, P8 (px4 m md i k n) := fun n => texelI_P8 h8 _ _ _
  have t0 : CallsG Tryz.prog 25 [.agg (imgE m), i64 i, i64 k, i64 md] [] (.agg (pixE (px4 m md i k 0))) [] := by
    have := c_texel0' m i k md hm (by unfold R64; omega) (by unfold R64; omega)
    rw [show texelI m i k md = px4 m md i k 0 by unfold px4; simp] at this; exact this
  have t1 : CallsG Tryz.prog 25 [.agg (imgE m), i64 (i + 1), i64 k, i64 md] [] (.agg (pixE (px4 m md i k 1))) [] := by
    have := c_texel0' m (i + 1) k md hm (by unfold R64; omega) (by unfold R64; omega)
    rw [show texelI m (i + 1) k md = px4 m md i k 1 by unfold px4; simp] at this; exact this
  have t2 : CallsG Tryz.prog 25 [.agg (imgE m), i64 i, i64 (k + 1), i64 md] [] (.agg (pixE (px4 m md i k 2))) [] := by
    have := c_texel0' m i (k + 1) md hm (by unfold R64; omega) (by unfold R64; omega)
    rw [show texelI m i (k + 1) md = px4 m md i k 2 by unfold px4; simp] at this; exact this
  have t3 : CallsG Tryz.prog 25 [.agg (imgE m), i64 (i + 1), i64 (k + 1), i64 md] [] (.agg (pixE (px4 m md i k 3))) [] := by
    have := c_texel0' m (i + 1) (k + 1) md hm (by unfold R64; omega) (by unfold R64; omega)
    rw [show texelI m (i + 1) (k + 1) md = px4 m md i k 3 by unfold px4; simp] at this; exact this
  generalize px4 m md i k = Q at *
  refine Dr.mk (by decide +kernel) ?_
  refine CallV.to _ t0 rfl ?_
  refine Ar.fit (by omega) ?_
  refine CallV.to _ t1 rfl ?_
  refine Dr.mk (by decide +kernel) ?_
  refine Ar.fit (by omega) ?_
  refine CallV.to _ t2 rfl ?_
  refine Ar.fit (by omega) ?_
  refine Ar.fit (by omega) ?_
  refine CallV.to _ t3 rfl ?_
  refine Dr.mk (by decide +kernel) ?_
  refine CallV.to _ (c_interp (fun n => (Q n).r) f g hf hg (fun n => (hQ8 n).1)) rfl ?_
  refine CallV.to _ (c_interp (fun n => (Q n).g) f g hf hg (fun n => (hQ8 n).2.1)) rfl ?_
  refine CallV.to _ (c_interp (fun n => (Q n).b) f g hf hg (fun n => (hQ8 n).2.2.1)) rfl ?_
  refine CallV.to _ (c_interp (fun n => (Q n).a) f g hf hg (fun n => (hQ8 n).2.2.2)) rfl ?_
  exact .refl

set_option maxRecDepth 100000 in
theorem c_sample' (m : Img) (look md : Int) (a b : BR) (h8 : ∀ q ∈ m.px, P8 q) (ha : a.len ≤ 1000000) (hb : b.len ≤ 1000000) :
    CallsG Tryz.prog 9 [.agg (imgE m), i64 look, i64 md, .agg (brE a), .agg (brE b)] [] (.agg (pixE (smp m look md a.v b.v))) [] := by
  refine calls_to tok mix Tryz.func9 rfl rfl rfl ?_
  have no : ¬ ((look = 1 ∨ look = 2) ∧ imgOK m ∧ nearQ a.v ∧ nearQ b.v) → LE (.agg (pixE zeroP)) (.agg (pixE (smp m look md a.v b.v))) := fun h => by
    unfold smp; rw [if_neg h]; exact .refl
  refine CallV.to _ (c_valid' m) rfl ?_
  refine Br.mk (fun h1 => no fun h => h1 h.2.1) (fun h1 => ?_)
  have h1 := Decidable.not_not.1 h1
  refine CallV.to _ (c_inrange a (by omega)) rfl ?_
  refine Br.mk (fun h2 => no fun h => h2 h.2.2.1) (fun h2 => ?_)
  have h2 := Decidable.not_not.1 h2
  refine CallV.to _ (c_inrange b (by omega)) rfl ?_
  refine Br.mk (fun h3 => no fun h => h3 h.2.2.2) (fun h3 => ?_)
  have h3 := Decidable.not_not.1 h3
  refine Br.mk (fun e => ?_) (fun e => ?_)
  · refine Dr.mk (by decide +kernel) ?_
    refine CallV.to _ (c_rfloor a (by omega)) rfl ?_
    refine CallV.to _ (c_rfloor b (by omega)) rfl ?_
    refine CallV.to _ (c_texel0' m (flo a.v) (flo b.v) md h1 (flo_r64 _) (flo_r64 _)) rfl ?_
    have : smp m look md a.v b.v = texelI m (flo a.v) (flo b.v) md := by
      unfold smp; rw [if_pos ⟨.inl e, h1, h2, h3⟩, if_neg (by omega)]
    rw [this]
    exact .refl
  refine Br.mk (fun e2 => ?_) (fun e2 => ?_)
  · refine Dr.mk (by decide +kernel) ?_
    refine CallV.to _ (c_rfine a ha) rfl ?_
    refine CallV.to _ (c_rfine b hb) rfl ?_
    refine CallV.to _ (c_bilinear m md (fineQ a.v) (fineQ b.v) h1 h8 (flo_r64 _) (flo_r64 _)) rfl ?_
    have : smp m look md a.v b.v = smoothP m md a.v b.v := by
      unfold smp; rw [if_pos ⟨.inr e2, h1, h2, h3⟩, if_pos e2]
    rw [this]
    exact .refl
  · exact no fun h => h.1.elim e e2

theorem c_short (a : BR) : CallsG Tryz.prog 6 [.agg (brE a)] [] (pr (a.len ≤ 20)) [] := by
  refine calls_to tok mix Tryz.func6 rfl rfl rfl ?_
  intro _
  refine Br.mk (fun h1 => ?_) (fun h1 => LE_false (by unfold BR.len; omega))
  intro _
  exact LE_pr (by unfold BR.len; omega)

theorem texelI_ok {m : Img} (h : imgOK m) (x y md : Int) : pxOK (texelI m x y md) := by
  unfold texelI
  split
  · rw [List.getD_eq_getElem?_getD]
    cases hq : m.px[((wrapI y m.h md).1 * m.w + (wrapI x m.w md).1).toNat]? with
    | none => exact ⟨by decide, by decide, by decide⟩
    | some q => exact h.2.2.2.2 q (List.mem_of_getElem? hq)
  · exact ⟨by decide, by decide, by decide⟩
theorem acc_mono {W V V' : Nat → Int} (hw : ∀ n, 0 ≤ W n) (hv : ∀ n, V n ≤ V' n) : ∀ n, accW W V n ≤ accW W V' n
  | 0 => Int.le_refl _
  | n + 1 => Int.add_le_add (acc_mono hw hv n) (Int.mul_le_mul_of_nonneg_left (hv n) (hw n))
theorem bR_mono {s t : Int} (h0 : 0 ≤ s) (h : s ≤ t) : bR s ≤ bR t := by
  unfold bR rdiv
  rw [if_pos (by omega), if_pos (by omega), show Int.natAbs 65536 = 65536 from rfl]
  omega
theorem smp_ok (m : Img) (look md : Int) (x y : Rat) (h8 : ∀ q ∈ m.px, P8 q) : pxOK (smp m look md x y) := by
  unfold smp
  by_cases h : (look = 1 ∨ look = 2) ∧ imgOK m ∧ nearQ x ∧ nearQ y
  · rw [if_pos h]
    by_cases e : look = 2
    · rw [if_pos e]
      have hf : 0 ≤ fineQ x % 256 ∧ fineQ x % 256 ≤ 255 := by omega
      have hg : 0 ≤ fineQ y % 256 ∧ fineQ y % 256 ≤ 255 := by omega
      have hW := fun n => (wgt_range hf hg n).1
      have hQ := fun n => texelI_ok h.2.1 (fineQ x / 256 + (n : Nat) % 2) (fineQ y / 256 + (n : Nat) / 2) md
      have h8n : ∀ n, P8 (px4 m md (fineQ x / 256) (fineQ y / 256) n) := fun n => texelI_P8 h8 _ _ _
      refine ⟨bR_mono (acc4 hf hg fun n => (h8n n).1).1 (acc_mono hW (fun n => (hQ n).1) 4), bR_mono (acc4 hf hg fun n => (h8n n).2.1).1 (acc_mono hW (fun n => (hQ n).2.1) 4), bR_mono (acc4 hf hg fun n => (h8n n).2.2.1).1 (acc_mono hW (fun n => (hQ n).2.2) 4)⟩
    · rw [if_neg e]; exact texelI_ok h.2.1 _ _ _
  · rw [if_neg h]; exact ⟨by decide, by decide, by decide⟩

set_option maxRecDepth 100000 in
theorem c_lawSample (m : Img) (look md : Int) (a b : BR) (h8 : ∀ q ∈ m.px, P8 q) :
    CallsG Tryz.prog 3 [.agg (imgE m), .agg ([i64 look, i64 md] ++ (brE a ++ brE b))] [] (bl true) [] := by
  refine calls_to tok mix Tryz.func3 rfl rfl rfl ?_
  refine CallV.to _ (c_small m) rfl ?_
  refine Br.mk (fun _ => CallV.to _ c_example rfl .refl) (fun h1 => ?_)
  have h1 := Decidable.not_not.1 h1
  refine CallV.to _ (c_short a) rfl ?_
  refine Br.mk (fun _ => CallV.to _ c_example rfl .refl) (fun h2 => ?_)
  have h2 := Decidable.not_not.1 h2
  refine CallV.to _ (c_short b) rfl ?_
  refine Br.mk (fun _ => CallV.to _ c_example rfl .refl) (fun h3 => ?_)
  have h3 := Decidable.not_not.1 h3
  refine CallV.to _ (c_sample m look md a b (by omega) h8 (by omega) (by omega)) rfl ?_
  have hk := smp_ok m look md a.v b.v h8
  refine Dr.mk (by decide +kernel) ?_
  refine CallV.to _ (c_sample' m look md a b h8 (by omega) (by omega)) rfl ?_
  refine Br.mk (fun _ => ?_) (fun k => absurd ⟨rfl, rfl, rfl, rfl, trivial⟩ k)
  refine CallV.to _ (c_pvalid' (smp m look md a.v b.v)) rfl ?_
  refine Br.mk (fun _ => ?_) (fun k => absurd hk k)
  refine CallV.to _ c_example rfl ?_
  exact .refl

end Go.Gs
