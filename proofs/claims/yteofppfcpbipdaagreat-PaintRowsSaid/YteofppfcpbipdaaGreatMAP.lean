/- Rows of a brush. -/
import Derived.Test.YteofppfcpbipdaaGreatMAO
import Derived.Test.YteofppfcpbipdaaGreatMAH
import Derived.RowKit3
import Derived.Below
import GoSem.Claim
import Derived.Deep.Slices
import Derived.Deep.Fields
import Derived.ChangeSame
import Derived.Lib.SmallJoins
import Derived.WalkKit
import Derived.ProofKit
import Derived.OpenShut
import Derived.Carry
import Derived.Test.YteofppfcpbipdaaGreatMAL
import Derived.Test.YteofppfcpbipdaaGreatChecked
namespace Go.Gs
open Go.Proofs

def rowAt (f : Int → Int → Pix) (x y : Int) (i : Nat) : Pix := if 4096 < x then zeroP else f (x + i) y
def rowP (f : Int → Int → Pix) (x y : Int) (m : Nat) : List Pix := (List.range m).map (rowAt f x y)
theorem rowP_succ (f : Int → Int → Pix) (x y : Int) (m : Nat) : rowP f x y (m + 1) = rowP f x y m ++ [rowAt f x y m] := by
  simp [rowP, List.range_succ]
theorem rowP_len (f : Int → Int → Pix) (x y : Int) (m : Nat) : (rowP f x y m).length = m := by simp [rowP]
theorem pxOne (d : Pix) : [d].length = 1 ∧ 1 ≤ 281474976710656 ∧ 1 * 4 ≤ 16777216 ∧ 0 < 4 ∧ ∀ x ∈ [d], (pixE x).length = 4 ∧ cellsB (pixE x) = true ∧ flat.flats (pixE x) = true :=
  ⟨rfl, by decide, by decide, by decide, fun _ _ => ⟨rfl, rfl, rfl⟩⟩
theorem pxFst (d : Pix) : (([d].length : Int) * (4 : Nat) ≤ 140737488355328 ∧ [d].length ≤ 281474976710656 ∧ 0 < 4 ∧ ∀ x ∈ [d], (pixE x).length = 4) :=
  ⟨by show (1 : Int) * 4 ≤ _; decide, by show 1 ≤ _; decide, by decide, fun _ _ => rfl⟩
theorem pxApp {xs : List Pix} (d : Pix) (h : xs.length ≤ 100000) : ((xs.length + [d].length : Int) * (4 : Nat) ≤ 140737488355328 ∧ xs.length + [d].length ≤ 281474976710656 ∧ 0 < 4 ∧ ∀ x ∈ [d], (pixE x).length = 4) :=
  ⟨by simp only [List.length_singleton]; omega, by simp only [List.length_singleton]; omega, by decide, fun _ _ => rfl⟩

theorem c_rownil (f : Int → Int → Pix) (hat : ∀ x y : Int, CallsG Tryz.prog 20 [nilP, i64 x, i64 y] [] (.agg (pixE (f x y))) []) (x y n : Int) (hx : R64 x) :
    CallsG Tryz.prog 27 [nilP, i64 x, i64 y, i64 n] [] (.sl pixE (rowP f x y (max 0 (min n 4096)).toNat)) [] := by
  have key : CallsG Tryz.prog 27 [nilP, i64 x, i64 y, i64 n] [] (.own 0) [(0, .arr 47 pixE 4 (rowP f x y (max 0 (min n 4096)).toNat))] := by
    unfold R64 at hx
    refine calls_own tok mix Tryz.func27 rfl rfl rfl ?_
    refine ⟨Nat, fun j => match j with
      | 0 => ⟨[(14, i64 0), (13, i64 (max 0 (min n 4096))), (9, .val (.slice none 0 0)), (0, nilP), (1, i64 x), (2, i64 y)], [], 0, 34, 0⟩
      | i + 1 => ⟨[(14, i64 (i + 1 : Nat)), (13, i64 (max 0 (min n 4096))), (9, .own 0), (0, nilP), (1, i64 x), (2, i64 y)], [(0, .arr 47 pixE 4 (rowP f x y (i + 1)))], 1, 34, 0⟩,
      fun j => (j : Int) ≤ max 0 (min n 4096), fun j => (max 0 (min n 4096)).toNat - j, 0, ?_, ?_, ?_⟩
    · show ((0 : Nat) : Int) ≤ _; omega
    · exact sub_of [] rfl rfl rfl ⟨rfl, rfl, rfl, rfl, rfl, rfl, trivial⟩ trivial
    rintro j hj
    cases j with
    | zero =>
      refine Br.mk (fun h1 => ?_) (fun h1 => ?_)
      · refine Br.mk (fun h2 => ?_) (fun h2 => ?_)
        · refine ⟨Pix, pixE, [zeroP], rfl, Ob.mk (pxOne _) ?_⟩
          refine ⟨Pix, pixE, [zeroP], rfl, Ob.mk ⟨by decide, by decide, by decide, fun _ _ => rfl⟩ ?_⟩
          refine Ar.fit (by omega) ?_
          exact ⟨1, (by show ((1 : Nat) : Int) ≤ _; omega), sub_of [(0, some 1)] rfl rfl rfl ⟨rfl, rfl, rfl, rfl, rfl, rfl, trivial⟩ ⟨congrArg (fun q => some (Mem.arr 47 pixE 4 q)) (show [zeroP] = rowP f x y (0 + 1) by simp [rowP, rowAt, h2]), trivial⟩, by dsimp only; omega⟩
        · refine Ar.fit (by omega) ?_
          refine CallV.to _ (hat (x + 0) y) rfl ?_
          refine ⟨Pix, pixE, [f (x + 0) y], rfl, Ob.mk (pxOne _) ?_⟩
          refine ⟨Pix, pixE, [f (x + 0) y], rfl, Ob.mk (pxFst _) ?_⟩
          refine Ar.fit (by omega) ?_
          exact ⟨1, (by show ((1 : Nat) : Int) ≤ _; omega), sub_of [(0, some 1)] rfl rfl rfl ⟨rfl, rfl, rfl, rfl, rfl, rfl, trivial⟩ ⟨congrArg (fun q => some (Mem.arr 47 pixE 4 q)) (show [f (x + 0) y] = rowP f x y (0 + 1) by simp [rowP, rowAt, h2]), trivial⟩, by dsimp only; omega⟩
      · refine ⟨none, .nil rfl, ?_⟩
        show rowP f x y (max 0 (min n 4096)).toNat = []
        rw [show (max 0 (min n 4096)).toNat = 0 by omega]; rfl
    | succ i =>
      refine Br.mk (fun h1 => ?_) (fun h1 => ?_)
      · refine Br.mk (fun h2 => ?_) (fun h2 => ?_)
        · refine ⟨Pix, pixE, [zeroP], rfl, Ob.mk (pxOne _) ?_⟩
          refine ⟨_, rfl, Ob.mk (pxApp zeroP (by rw [rowP_len]; omega)) ?_⟩
          refine Ar.fit (by omega) ?_
          exact ⟨i + 1 + 1, (by show ((i + 1 + 1 : Nat) : Int) ≤ _; omega), sub_of [(0, some 2)] rfl rfl rfl ⟨rfl, rfl, rfl, rfl, rfl, rfl, trivial⟩ ⟨congrArg (fun q => some (Mem.arr 47 pixE 4 q)) (show rowP f x y (i + 1) ++ [zeroP] = rowP f x y (i + 1 + 1) by rw [rowP_succ f x y (i + 1), rowAt, if_pos h2]), trivial⟩, by dsimp only; omega⟩
        · refine Ar.fit (by omega) ?_
          refine CallV.to _ (hat (x + ((i + 1 : Nat) : Int)) y) rfl ?_
          refine ⟨Pix, pixE, [f (x + ((i + 1 : Nat) : Int)) y], rfl, Ob.mk (pxOne _) ?_⟩
          refine ⟨_, rfl, Ob.mk (pxApp (f (x + ((i + 1 : Nat) : Int)) y) (by rw [rowP_len]; omega)) ?_⟩
          refine Ar.fit (by omega) ?_
          exact ⟨i + 1 + 1, (by show ((i + 1 + 1 : Nat) : Int) ≤ _; omega), sub_of [(0, some 2)] rfl rfl rfl ⟨rfl, rfl, rfl, rfl, rfl, rfl, trivial⟩ ⟨congrArg (fun q => some (Mem.arr 47 pixE 4 q)) (show rowP f x y (i + 1) ++ [f (x + ((i + 1 : Nat) : Int)) y] = rowP f x y (i + 1 + 1) by rw [rowP_succ f x y (i + 1), rowAt, if_neg h2]), trivial⟩, by dsimp only; omega⟩
      · refine ⟨some 0, .own _ rfl, ?_, fun _ _ => rfl⟩
        exact congrArg (fun q => some (Mem.arr 47 pixE 4 (rowP f x y q))) (by omega)
  exact key.plain rfl

theorem c_rowd (cs : List SV) (f : Int → Int → Pix) (hat : ∀ x y : Int, CallsG Tryz.prog 20 [.dptr cs, i64 x, i64 y] [] (.agg (pixE (f x y))) []) (x y n : Int) (hx : R64 x) :
    CallsG Tryz.prog 27 [.dptr cs, i64 x, i64 y, i64 n] [] (.sl pixE (rowP f x y (max 0 (min n 4096)).toNat)) [] := by
  have key : CallsG Tryz.prog 27 [.dptr cs, i64 x, i64 y, i64 n] [] (.own 0) [(0, .arr 47 pixE 4 (rowP f x y (max 0 (min n 4096)).toNat))] := by
    unfold R64 at hx
    refine calls_own tok mix Tryz.func27 rfl rfl rfl ?_
    refine ⟨Nat, fun j => match j with
      | 0 => ⟨[(14, i64 0), (13, i64 (max 0 (min n 4096))), (9, .val (.slice none 0 0)), (0, .dptr cs), (1, i64 x), (2, i64 y)], [], 0, 34, 0⟩
      | i + 1 => ⟨[(14, i64 (i + 1 : Nat)), (13, i64 (max 0 (min n 4096))), (9, .own 0), (0, .dptr cs), (1, i64 x), (2, i64 y)], [(0, .arr 47 pixE 4 (rowP f x y (i + 1)))], 1, 34, 0⟩,
      fun j => (j : Int) ≤ max 0 (min n 4096), fun j => (max 0 (min n 4096)).toNat - j, 0, ?_, ?_, ?_⟩
    · show ((0 : Nat) : Int) ≤ _; omega
    · exact sub_of [] rfl rfl rfl ⟨rfl, rfl, rfl, rfl, rfl, rfl, trivial⟩ trivial
    rintro j hj
    cases j with
    | zero =>
      refine Br.mk (fun h1 => ?_) (fun h1 => ?_)
      · refine Br.mk (fun h2 => ?_) (fun h2 => ?_)
        · refine ⟨Pix, pixE, [zeroP], rfl, Ob.mk (pxOne _) ?_⟩
          refine ⟨Pix, pixE, [zeroP], rfl, Ob.mk ⟨by decide, by decide, by decide, fun _ _ => rfl⟩ ?_⟩
          refine Ar.fit (by omega) ?_
          exact ⟨1, (by show ((1 : Nat) : Int) ≤ _; omega), sub_of [(0, some 1)] rfl rfl rfl ⟨rfl, rfl, rfl, rfl, rfl, rfl, trivial⟩ ⟨congrArg (fun q => some (Mem.arr 47 pixE 4 q)) (show [zeroP] = rowP f x y (0 + 1) by simp [rowP, rowAt, h2]), trivial⟩, by dsimp only; omega⟩
        · refine Ar.fit (by omega) ?_
          refine CallV.to _ (hat (x + 0) y) rfl ?_
          refine ⟨Pix, pixE, [f (x + 0) y], rfl, Ob.mk (pxOne _) ?_⟩
          refine ⟨Pix, pixE, [f (x + 0) y], rfl, Ob.mk (pxFst _) ?_⟩
          refine Ar.fit (by omega) ?_
          exact ⟨1, (by show ((1 : Nat) : Int) ≤ _; omega), sub_of [(0, some 1)] rfl rfl rfl ⟨rfl, rfl, rfl, rfl, rfl, rfl, trivial⟩ ⟨congrArg (fun q => some (Mem.arr 47 pixE 4 q)) (show [f (x + 0) y] = rowP f x y (0 + 1) by simp [rowP, rowAt, h2]), trivial⟩, by dsimp only; omega⟩
      · refine ⟨none, .nil rfl, ?_⟩
        show rowP f x y (max 0 (min n 4096)).toNat = []
        rw [show (max 0 (min n 4096)).toNat = 0 by omega]; rfl
    | succ i =>
      refine Br.mk (fun h1 => ?_) (fun h1 => ?_)
      · refine Br.mk (fun h2 => ?_) (fun h2 => ?_)
        · refine ⟨Pix, pixE, [zeroP], rfl, Ob.mk (pxOne _) ?_⟩
          refine ⟨_, rfl, Ob.mk (pxApp zeroP (by rw [rowP_len]; omega)) ?_⟩
          refine Ar.fit (by omega) ?_
          exact ⟨i + 1 + 1, (by show ((i + 1 + 1 : Nat) : Int) ≤ _; omega), sub_of [(0, some 2)] rfl rfl rfl ⟨rfl, rfl, rfl, rfl, rfl, rfl, trivial⟩ ⟨congrArg (fun q => some (Mem.arr 47 pixE 4 q)) (show rowP f x y (i + 1) ++ [zeroP] = rowP f x y (i + 1 + 1) by rw [rowP_succ f x y (i + 1), rowAt, if_pos h2]), trivial⟩, by dsimp only; omega⟩
        · refine Ar.fit (by omega) ?_
          refine CallV.to _ (hat (x + ((i + 1 : Nat) : Int)) y) rfl ?_
          refine ⟨Pix, pixE, [f (x + ((i + 1 : Nat) : Int)) y], rfl, Ob.mk (pxOne _) ?_⟩
          refine ⟨_, rfl, Ob.mk (pxApp (f (x + ((i + 1 : Nat) : Int)) y) (by rw [rowP_len]; omega)) ?_⟩
          refine Ar.fit (by omega) ?_
          exact ⟨i + 1 + 1, (by show ((i + 1 + 1 : Nat) : Int) ≤ _; omega), sub_of [(0, some 2)] rfl rfl rfl ⟨rfl, rfl, rfl, rfl, rfl, rfl, trivial⟩ ⟨congrArg (fun q => some (Mem.arr 47 pixE 4 q)) (show rowP f x y (i + 1) ++ [f (x + ((i + 1 : Nat) : Int)) y] = rowP f x y (i + 1 + 1) by rw [rowP_succ f x y (i + 1), rowAt, if_neg h2]), trivial⟩, by dsimp only; omega⟩
      · refine ⟨some 0, .own _ rfl, ?_, fun _ _ => rfl⟩
        exact congrArg (fun q => some (Mem.arr 47 pixE 4 (rowP f x y q))) (by omega)
  exact key.plain rfl

theorem c_rowp (cs : List SV) (f : Int → Int → Pix) (hat : ∀ x y : Int, CallsG Tryz.prog 20 [.ptr cs, i64 x, i64 y] [] (.agg (pixE (f x y))) []) (x y n : Int) (hx : R64 x) :
    CallsG Tryz.prog 27 [.ptr cs, i64 x, i64 y, i64 n] [] (.sl pixE (rowP f x y (max 0 (min n 4096)).toNat)) [] := by
  have key : CallsG Tryz.prog 27 [.ptr cs, i64 x, i64 y, i64 n] [] (.own 0) [(0, .arr 47 pixE 4 (rowP f x y (max 0 (min n 4096)).toNat))] := by
    unfold R64 at hx
    refine calls_own tok mix Tryz.func27 rfl rfl rfl ?_
    refine ⟨Nat, fun j => match j with
      | 0 => ⟨[(14, i64 0), (13, i64 (max 0 (min n 4096))), (9, .val (.slice none 0 0)), (0, .ptr cs), (1, i64 x), (2, i64 y)], [], 0, 34, 0⟩
      | i + 1 => ⟨[(14, i64 (i + 1 : Nat)), (13, i64 (max 0 (min n 4096))), (9, .own 0), (0, .ptr cs), (1, i64 x), (2, i64 y)], [(0, .arr 47 pixE 4 (rowP f x y (i + 1)))], 1, 34, 0⟩,
      fun j => (j : Int) ≤ max 0 (min n 4096), fun j => (max 0 (min n 4096)).toNat - j, 0, ?_, ?_, ?_⟩
    · show ((0 : Nat) : Int) ≤ _; omega
    · exact sub_of [] rfl rfl rfl ⟨rfl, rfl, rfl, rfl, rfl, rfl, trivial⟩ trivial
    rintro j hj
    cases j with
    | zero =>
      refine Br.mk (fun h1 => ?_) (fun h1 => ?_)
      · refine Br.mk (fun h2 => ?_) (fun h2 => ?_)
        · refine ⟨Pix, pixE, [zeroP], rfl, Ob.mk (pxOne _) ?_⟩
          refine ⟨Pix, pixE, [zeroP], rfl, Ob.mk ⟨by decide, by decide, by decide, fun _ _ => rfl⟩ ?_⟩
          refine Ar.fit (by omega) ?_
          exact ⟨1, (by show ((1 : Nat) : Int) ≤ _; omega), sub_of [(0, some 1)] rfl rfl rfl ⟨rfl, rfl, rfl, rfl, rfl, rfl, trivial⟩ ⟨congrArg (fun q => some (Mem.arr 47 pixE 4 q)) (show [zeroP] = rowP f x y (0 + 1) by simp [rowP, rowAt, h2]), trivial⟩, by dsimp only; omega⟩
        · refine Ar.fit (by omega) ?_
          refine CallV.to _ (hat (x + 0) y) rfl ?_
          refine ⟨Pix, pixE, [f (x + 0) y], rfl, Ob.mk (pxOne _) ?_⟩
          refine ⟨Pix, pixE, [f (x + 0) y], rfl, Ob.mk (pxFst _) ?_⟩
          refine Ar.fit (by omega) ?_
          exact ⟨1, (by show ((1 : Nat) : Int) ≤ _; omega), sub_of [(0, some 1)] rfl rfl rfl ⟨rfl, rfl, rfl, rfl, rfl, rfl, trivial⟩ ⟨congrArg (fun q => some (Mem.arr 47 pixE 4 q)) (show [f (x + 0) y] = rowP f x y (0 + 1) by simp [rowP, rowAt, h2]), trivial⟩, by dsimp only; omega⟩
      · refine ⟨none, .nil rfl, ?_⟩
        show rowP f x y (max 0 (min n 4096)).toNat = []
        rw [show (max 0 (min n 4096)).toNat = 0 by omega]; rfl
    | succ i =>
      refine Br.mk (fun h1 => ?_) (fun h1 => ?_)
      · refine Br.mk (fun h2 => ?_) (fun h2 => ?_)
        · refine ⟨Pix, pixE, [zeroP], rfl, Ob.mk (pxOne _) ?_⟩
          refine ⟨_, rfl, Ob.mk (pxApp zeroP (by rw [rowP_len]; omega)) ?_⟩
          refine Ar.fit (by omega) ?_
          exact ⟨i + 1 + 1, (by show ((i + 1 + 1 : Nat) : Int) ≤ _; omega), sub_of [(0, some 2)] rfl rfl rfl ⟨rfl, rfl, rfl, rfl, rfl, rfl, trivial⟩ ⟨congrArg (fun q => some (Mem.arr 47 pixE 4 q)) (show rowP f x y (i + 1) ++ [zeroP] = rowP f x y (i + 1 + 1) by rw [rowP_succ f x y (i + 1), rowAt, if_pos h2]), trivial⟩, by dsimp only; omega⟩
        · refine Ar.fit (by omega) ?_
          refine CallV.to _ (hat (x + ((i + 1 : Nat) : Int)) y) rfl ?_
          refine ⟨Pix, pixE, [f (x + ((i + 1 : Nat) : Int)) y], rfl, Ob.mk (pxOne _) ?_⟩
          refine ⟨_, rfl, Ob.mk (pxApp (f (x + ((i + 1 : Nat) : Int)) y) (by rw [rowP_len]; omega)) ?_⟩
          refine Ar.fit (by omega) ?_
          exact ⟨i + 1 + 1, (by show ((i + 1 + 1 : Nat) : Int) ≤ _; omega), sub_of [(0, some 2)] rfl rfl rfl ⟨rfl, rfl, rfl, rfl, rfl, rfl, trivial⟩ ⟨congrArg (fun q => some (Mem.arr 47 pixE 4 q)) (show rowP f x y (i + 1) ++ [f (x + ((i + 1 : Nat) : Int)) y] = rowP f x y (i + 1 + 1) by rw [rowP_succ f x y (i + 1), rowAt, if_neg h2]), trivial⟩, by dsimp only; omega⟩
      · refine ⟨some 0, .own _ rfl, ?_, fun _ _ => rfl⟩
        exact congrArg (fun q => some (Mem.arr 47 pixE 4 (rowP f x y q))) (by omega)
  exact key.plain rfl

end Go.Gs
/- The laws Independent and NilBrush of paints. -/
namespace Go.Gs
open Go.Proofs

abbrev i8 (n : Int) : SV := .val (.int .i8 n)
def q8E (q : Pt) : List SV := [i8 q.x, i8 q.y]

theorem zeroP_ok : pxOK zeroP := by decide
theorem atP_ok {p : Pnt} {t : AF} {x y : Int} (h8 : P8p p) : pxOK (atP p t x y) := by
  unfold atP
  split
  · exact zeroP_ok
  split
  · exact preP_ok h8.1
  unfold srcP
  split
  · exact preP_ok (spCol_8 h8.2.1)
  split
  · exact preP_ok (spCol_8 h8.2.1)
  · exact smp_ok _ _ _ _ _ h8.2.2

def firstP (f : Int → Int → Pix) (l : List Pt) (i : Nat) : List Pix := (l.take i).map fun q => f q.x q.y
theorem firstP_len {f : Int → Int → Pix} {l : List Pt} {i : Nat} (h : i ≤ l.length) : (firstP f l i).length = i := by simp [firstP]; omega
theorem firstP_succ {f : Int → Int → Pix} {l : List Pt} {i : Nat} {q : Pt} (h : l[i]? = some q) : firstP f l (i + 1) = firstP f l i ++ [f q.x q.y] := by
  have hi := (List.getElem?_eq_some_iff.1 h).1
  have e := (List.getElem?_eq_some_iff.1 h).2
  unfold firstP
  rw [List.take_succ_eq_append_getElem hi, List.map_append, e]; rfl
theorem firstP_at {f : Int → Int → Pix} {l : List Pt} {i : Nat} {q : Pt} (h : l[i]? = some q) : (firstP f l l.length)[i]? = some (f q.x q.y) := by
  simp [firstP, h]

set_option maxRecDepth 100000 in
set_option maxHeartbeats 8000000 in
theorem c_lawIndep (p : Pnt) (t : AF) (l : List Pt) (h8 : P8p p) (hl : ∀ q ∈ l, (-128 ≤ q.x ∧ q.x ≤ 127) ∧ (-128 ≤ q.y ∧ q.y ≤ 127)) : CallsG Tryz.prog 5 [.agg (pntE p), .agg (afE t), .sl q8E l] [] (bl true) [] := by
  refine calls_to tok mix Tryz.func5 rfl rfl rfl ?_
  refine CallV.to _ (c_few34 p t) rfl ?_
  refine Br.mk (fun h1 => ?_) (fun h1 => ?_)
  · refine CallV.to _ c_example34 rfl ?_
    exact .refl
  intro hll
  refine Br.mk (fun h2 => ?_) (fun h2 => ?_)
  · refine CallV.to _ c_example34 rfl ?_
    exact .refl
  obtain ⟨hf, ht⟩ := Decidable.not_not.1 h1
  by_cases he : nbErr p t = 0
  rotate_left
  · have hn := c_brushbad p t hf ht he
    refine CallV.to _ hn rfl ?_
    refine Br.mk (fun _ => ?_) (fun h => absurd he h)
    refine Br.mk (fun _ => ?_) (fun h => absurd he h)
    refine CallV.to _ c_example34 rfl ?_
    exact .refl
  obtain ⟨cs, hn, ha⟩ := c_brush p t hf ht h8 he
  refine CallV.to _ hn rfl ?_
  refine Br.mk (fun h => absurd rfl h) (fun _ => ?_)
  refine ⟨Pix, pixE, [], rfl, Ob.mk ⟨rfl, by decide, by decide, by decide, fun _ _ => ⟨rfl, rfl, rfl⟩⟩ ?_⟩
  refine ⟨Nat, fun i => ⟨[(2, .sl q8E l), (3, .loc 0 0), (4, .loc 1 0), (7, .dptr cs), (9, .own 2), (10, i64 i)], [(0, .box 38 (pntE p)), (1, .box 36 (afE t)), (2, .arr 47 pixE 4 (firstP (atP p t) l i))], 3, 128, 0⟩,
    fun i => i ≤ l.length, fun i => l.length - i, 0, ?_, ?_, ?_⟩
  · exact Nat.zero_le _
  · exact sub_of [(0, some 0), (1, some 1), (2, some 2)] rfl rfl rfl ⟨rfl, rfl, rfl, rfl, rfl, rfl, trivial⟩ ⟨rfl, rfl, rfl, trivial⟩
  · intro i hi
    intro _
    refine Br.mk (fun h5 => ?_) (fun h5 => ?_)
    · refine Dr.mk (by decide +kernel) ?_
      refine Ob.mk (by omega) ?_
      intro q hq
      have hq : l[i]? = some q := hq
      obtain ⟨⟨b1, b2⟩, b3, b4⟩ := hl q (List.mem_of_getElem? hq)
      refine Ar.fit (by omega) ?_
      refine Ob.mk (by omega) ?_
      intro q' hq'
      have hq' : l[i]? = some q' := hq'
      obtain rfl : q' = q := Option.some.inj (hq'.symm.trans hq)
      refine Ar.fit (by omega) ?_
      refine CallV.to _ (ha q'.x q'.y) rfl ?_
      refine CallV.to _ (c_pvalid' (atP p t q'.x q'.y)) rfl ?_
      refine Br.mk (fun h => absurd (atP_ok h8) h) (fun _ => ?_)
      refine ⟨Pix, pixE, [atP p t q'.x q'.y], rfl, Ob.mk (pxOne _) ?_⟩
      refine ⟨_, rfl, Ob.mk (pxApp _ (by rw [firstP_len hi]; omega)) ?_⟩
      refine Ar.fit (by omega) ?_
      exact ⟨i + 1, (by show i + 1 ≤ _; omega), sub_of [(0, some 0), (1, some 1), (2, some 5)] rfl rfl rfl ⟨rfl, rfl, rfl, rfl, rfl, rfl, trivial⟩ ⟨rfl, rfl, congrArg (fun q => some (Mem.arr 47 pixE 4 q)) (firstP_succ hq).symm, trivial⟩, by dsimp only; omega⟩
    · have hil : i = l.length := by omega
      subst hil
      refine CallV.to _ hn rfl ?_
      intro _
      refine Ar.fit (by omega) ?_
      refine ⟨Nat, fun k => ⟨[(2, .sl q8E l), (7, .dptr cs), (9, .own 0), (12, .dptr cs), (14, i64 ((k : Int) - 1))], [(0, .arr 47 pixE 4 (firstP (atP p t) l l.length))], 1, 128, 0⟩,
        fun k => k ≤ l.length, fun k => k, l.length, ?_, ?_, ?_⟩
      · exact Nat.le_refl _
      · exact sub_of [(0, some 2)] rfl rfl rfl ⟨rfl, rfl, rfl, rfl, rfl, trivial⟩ ⟨rfl, trivial⟩
      intro k hk
      refine Br.mk (fun h6 => ?_) (fun h6 => ?_)
      · obtain ⟨j, rfl⟩ : ∃ j, k = j + 1 := ⟨k - 1, by omega⟩
        have hj : (((j + 1 : Nat) : Int) - 1).toNat = j := by omega
        have hfl := firstP_len (f := atP p t) (l := l) (Nat.le_refl l.length)
        refine Dr.mk (by decide +kernel) ?_
        refine Ob.mk (by omega) ?_
        intro q hq
        rw [hj] at hq
        have hq : l[j]? = some q := hq
        have hfa := firstP_at (f := atP p t) hq
        obtain ⟨⟨b1, b2⟩, b3, b4⟩ := hl q (List.mem_of_getElem? hq)
        have same : ∀ {q' : Pt}, l[(((j + 1 : Nat) : Int) - 1).toNat]? = some q' → q' = q := fun {q'} h => by
          rw [hj] at h; exact Option.some.inj (h.symm.trans hq)
        have same2 : ∀ {z : Pix}, (firstP (atP p t) l l.length)[(((j + 1 : Nat) : Int) - 1).toNat]? = some z → z = atP p t q.x q.y := fun {z} h => by
          rw [hj] at h; exact Option.some.inj (h.symm.trans hfa)
        refine Ar.fit (by omega) ?_
        refine Ob.mk (by omega) ?_
        intro q' hq'
        obtain rfl := same hq'
        refine Ar.fit (by omega) ?_
        refine CallV.to _ (ha q'.x q'.y) rfl ?_
        refine Ob.mk (by omega) ?_
        refine Ob.mk (by omega) ?_
        intro z hz
        obtain rfl := same2 hz
        refine Br.mk (fun h => absurd (pix_eq.2 rfl) h) (fun _ => ?_)
        refine Ob.mk (by omega) ?_
        intro q' hq'
        obtain rfl := same hq'
        refine Ar.fit (by omega) ?_
        refine Ob.mk (by omega) ?_
        intro q'' hq''
        obtain rfl := same hq''
        refine Ar.fit (by omega) ?_
        refine CallV.to _ (ha q''.x q''.y) rfl ?_
        refine Ob.mk (by omega) ?_
        refine Ob.mk (by omega) ?_
        intro z hz
        obtain rfl := same2 hz
        refine Br.mk (fun h => absurd (pix_eq.2 rfl) h) (fun _ => ?_)
        refine Ar.fit (by omega) ?_
        exact ⟨j, (by show j ≤ _; omega), sub_of [(0, some 0)] rfl rfl rfl ⟨rfl, rfl, rfl, rfl, (by show some (i64 _) = some (i64 _); congr 3; omega), trivial⟩ ⟨rfl, trivial⟩, by dsimp only; omega⟩
      · refine CallV.to _ c_example34 rfl ?_
        exact .refl

def zbr : List SV := .val .nilIface :: zero24
set_option maxRecDepth 100000 in
theorem c_atz (x y : Int) : CallsG Tryz.prog 20 [.ptr zbr, i64 x, i64 y] [] (.agg (pixE zeroP)) [] := by
  refine calls_to tok mix Tryz.func20 rfl rfl rfl ?_
  exact .refl
theorem row0_at {x y : Int} {m i : Nat} {q : Pix} (h : (rowP (fun _ _ => zeroP) x y m)[i]? = some q) : q = zeroP := by
  unfold rowP at h
  rw [List.getElem?_map] at h
  cases hr : (List.range m)[i]? with
  | none => simp [hr] at h
  | some k =>
    simp [hr] at h
    rw [← h]; unfold rowAt; split <;> rfl

set_option maxRecDepth 100000 in
set_option maxHeartbeats 8000000 in
theorem c_lawNil (x y n : Int) (hx : R64 x) (hn : 0 ≤ n ∧ n ≤ 255) : CallsG Tryz.prog 9 [i64 x, i64 y, u8 n] [] (bl true) [] := by
  refine calls_to tok mix Tryz.func9 rfl rfl rfl ?_
  refine ⟨[[nilP], [.loc 0 0]], rfl, Ob.mk ⟨rfl, by decide, by decide, by decide, fun x hx => ?_⟩ ?_⟩
  · simp only [List.mem_cons, List.not_mem_nil, or_false] at hx
    rcases hx with rfl | rfl <;> rfl
  have hg : ∀ (i : Nat) (z : List SV), ([[nilP], [.loc 0 0]] : List (List SV))[i]? = some z → ∃ z', ([[nilP], [.loc 0 0]] : List (List SV))[i]? = some z' ∧ ren.rens [(0, some 0), (1, some 1)] z = some z' := fun i z h => by
    match i, h with
    | 0, h => cases h; exact ⟨_, rfl, rfl⟩
    | 1, h => cases h; exact ⟨_, rfl, rfl⟩
    | i + 2, h => simp at h
  refine ⟨Nat, fun i => ⟨[(0, i64 x), (1, i64 y), (2, u8 n), (8, .own 1), (9, i64 i)], [(0, .box 71 zbr), (1, .garr 43 1 [[nilP], [.loc 0 0]])], 2, 60, 0⟩, fun i => i ≤ 2, fun i => 2 - i, 0, ?_, ?_, ?_⟩
  · exact Nat.zero_le _
  · exact sub_of [(0, some 0), (1, some 1)] rfl rfl rfl ⟨rfl, rfl, rfl, rfl, rfl, trivial⟩ ⟨rfl, ⟨_, rfl, rfl, hg⟩, trivial⟩
  intro i hi
  intro _
  have h2l : (([[nilP], [.loc 0 0]] : List (List SV)).length : Int) = 2 := rfl
  have hr1 := c_rownil (fun _ _ => zeroP) c_atnil x y n hx
  have hr2 := c_rowp zbr (fun _ _ => zeroP) c_atz x y n hx
  have hml : (rowP (fun _ _ => zeroP) x y (max 0 (min n 4096)).toNat).length = n.toNat := by rw [rowP_len]; omega
  refine Br.mk (fun h2 => ?_) (fun _ => ?_)
  · have e : i = 0 ∨ i = 1 := by omega
    rcases e with rfl | rfl
    · refine Ob.mk (by omega) ?_
      refine Ob.mk (by omega) ?_
      intro z hz
      have hz : some [nilP] = some z := hz
      cases hz
      refine Ar.fit (by omega) ?_
      refine CallV.to _ hr1 rfl ?_
      refine Ob.mk (by omega) ?_
      refine Ob.mk (by omega) ?_
      intro z hz
      have hz : some [nilP] = some z := hz
      cases hz
      refine CallV.to _ (c_atnil x y) rfl ?_
      refine Br.mk (fun h => absurd ⟨rfl, rfl, rfl, rfl, trivial⟩ h) (fun _ => ?_)
      intro _
      refine Ar.fit (by omega) ?_
      refine Br.mk (fun h => absurd (by omega) h) (fun _ => ?_)
      refine ⟨Nat, fun k => ⟨[(0, i64 x), (1, i64 y), (2, u8 n), (8, .own 1), (9, i64 (0 : Nat)), (10, .sl pixE (rowP (fun _ _ => zeroP) x y (max 0 (min n 4096)).toNat)), (11, i64 k)], [(0, .box 71 zbr), (1, .garr 43 1 [[nilP], [.loc 0 0]])], 2, 60, 0⟩,
        fun k => k ≤ n.toNat, fun k => n.toNat - k, 0, ?_, ?_, ?_⟩
      · exact Nat.zero_le _
      · exact sub_of [(0, some 0), (1, some 1)] rfl rfl rfl ⟨rfl, rfl, rfl, rfl, rfl, rfl, rfl, trivial⟩ ⟨rfl, ⟨_, rfl, rfl, hg⟩, trivial⟩
      intro k hk
      intro _
      refine Br.mk (fun h3 => ?_) (fun _ => ?_)
      · refine Ob.mk (by omega) ?_
        intro q hq
        obtain rfl := row0_at hq
        refine Br.mk (fun h => absurd ⟨rfl, rfl, rfl, rfl, trivial⟩ h) (fun _ => ?_)
        refine Ar.fit (by omega) ?_
        exact ⟨k + 1, (by show k + 1 ≤ _; omega), sub_of [(0, some 0), (1, some 1)] rfl rfl rfl ⟨rfl, rfl, rfl, rfl, rfl, rfl, rfl, trivial⟩ ⟨rfl, ⟨_, rfl, rfl, hg⟩, trivial⟩, by dsimp only; omega⟩
      · refine Ar.fit (by omega) ?_
        exact ⟨1, (by show 1 ≤ 2; omega), sub_of [(0, some 0), (1, some 1)] rfl rfl rfl ⟨rfl, rfl, rfl, rfl, rfl, trivial⟩ ⟨rfl, ⟨_, rfl, rfl, hg⟩, trivial⟩, by dsimp only; omega⟩
    · refine Ob.mk (by omega) ?_
      refine Ob.mk (by omega) ?_
      intro z hz
      have hz : some [SV.loc 0 0] = some z := hz
      cases hz
      refine Ar.fit (by omega) ?_
      refine CallV.to _ hr2 rfl ?_
      refine Ob.mk (by omega) ?_
      refine Ob.mk (by omega) ?_
      intro z hz
      have hz : some [SV.loc 0 0] = some z := hz
      cases hz
      refine CallV.to _ (c_atz x y) rfl ?_
      refine Br.mk (fun h => absurd ⟨rfl, rfl, rfl, rfl, trivial⟩ h) (fun _ => ?_)
      intro _
      refine Ar.fit (by omega) ?_
      refine Br.mk (fun h => absurd (by omega) h) (fun _ => ?_)
      refine ⟨Nat, fun k => ⟨[(0, i64 x), (1, i64 y), (2, u8 n), (8, .own 1), (9, i64 (1 : Nat)), (10, .sl pixE (rowP (fun _ _ => zeroP) x y (max 0 (min n 4096)).toNat)), (11, i64 k)], [(0, .box 71 zbr), (1, .garr 43 1 [[nilP], [.loc 0 0]])], 2, 60, 0⟩,
        fun k => k ≤ n.toNat, fun k => n.toNat - k, 0, ?_, ?_, ?_⟩
      · exact Nat.zero_le _
      · exact sub_of [(0, some 0), (1, some 1)] rfl rfl rfl ⟨rfl, rfl, rfl, rfl, rfl, rfl, rfl, trivial⟩ ⟨rfl, ⟨_, rfl, rfl, hg⟩, trivial⟩
      intro k hk
      intro _
      refine Br.mk (fun h3 => ?_) (fun _ => ?_)
      · refine Ob.mk (by omega) ?_
        intro q hq
        obtain rfl := row0_at hq
        refine Br.mk (fun h => absurd ⟨rfl, rfl, rfl, rfl, trivial⟩ h) (fun _ => ?_)
        refine Ar.fit (by omega) ?_
        exact ⟨k + 1, (by show k + 1 ≤ _; omega), sub_of [(0, some 0), (1, some 1)] rfl rfl rfl ⟨rfl, rfl, rfl, rfl, rfl, rfl, rfl, trivial⟩ ⟨rfl, ⟨_, rfl, rfl, hg⟩, trivial⟩, by dsimp only; omega⟩
      · refine Ar.fit (by omega) ?_
        exact ⟨2, (by show 2 ≤ 2; omega), sub_of [(0, some 0), (1, some 1)] rfl rfl rfl ⟨rfl, rfl, rfl, rfl, rfl, trivial⟩ ⟨rfl, ⟨_, rfl, rfl, hg⟩, trivial⟩, by dsimp only; omega⟩
  · refine CallV.to _ c_example34 rfl ?_
    exact .refl

end Go.Gs
/- Moved transforms move the pixels: plain. -/
namespace Go.Gs
open Go.Proofs

theorem inv_back {t : AF} (h : detQ t ≠ 0) (x y : Rat) :
    applX (invA t) (applX t x y) (applY t x y) = x ∧ applY (invA t) (applX t x y) (applY t x y) = y ∧
    applX t (applX (invA t) x y) (applY (invA t) x y) = x ∧ applY t (applX (invA t) x y) (applY (invA t) x y) = y := by
  unfold invA inv0 applX applY
  simp only [ofQ_v, zBR_v]
  have hD : detQ t = t.a.v * t.d.v - t.b.v * t.c.v := rfl
  generalize t.a.v = a at *
  generalize t.b.v = b at *
  generalize t.c.v = c at *
  generalize t.d.v = d at *
  generalize t.e.v = e at *
  generalize t.f.v = f at *
  generalize detQ t = D at *
  have hk : D * D⁻¹ = 1 := Rat.mul_inv_cancel _ h
  simp only [Rat.div_def]
  generalize D⁻¹ = k at *
  subst hD
  refine ⟨?_, ?_, ?_, ?_⟩ <;> grind

theorem beh_apply (t u : AF) (x y : Rat) : applX (beh t u) x y = applX u (applX t x y) (applY t x y) ∧ applY (beh t u) x y = applY u (applX t x y) (applY t x y) := by
  unfold beh afQ applX applY
  simp only [ofQ_v]
  constructor <;> grind

theorem idA_apply (x y : Rat) : applX idA x y = x ∧ applY idA x y = y := by
  unfold idA afQ applX applY
  simp only [ofQ_v]
  constructor
  · have h0 : ((0 : Int) : Rat) = 0 := rfl
    have h1 : ((1 : Int) : Rat) = 1 := rfl
    rw [h0, h1]; grind
  · have h0 : ((0 : Int) : Rat) = 0 := rfl
    have h1 : ((1 : Int) : Rat) = 1 := rfl
    rw [h0, h1]; grind

def trA (x y : Rat) : AF := afQ ((1 : Int) : Rat) ((0 : Int) : Rat) ((0 : Int) : Rat) ((1 : Int) : Rat) x y
theorem trA_apply (p q x y : Rat) : applX (trA p q) x y = x + p ∧ applY (trA p q) x y = y + q := by
  unfold trA afQ applX applY
  simp only [ofQ_v]
  have h0 : ((0 : Int) : Rat) = 0 := rfl
  have h1 : ((1 : Int) : Rat) = 1 := rfl
  rw [h0, h1]
  constructor <;> grind

theorem invR_ok {t : AF} (h : (invR t).2 = 0) : detQ t ≠ 0 ∧ (invR t).1 = invA t := by
  unfold invR at *
  split at h
  · exact absurd h (by decide)
  split at h
  · exact absurd h (by decide)
  split at h
  · exact absurd h (by decide)
  · rename_i h1 h2 h3
    rw [if_neg h1, if_neg h2, if_neg h3]
    exact ⟨h2, rfl⟩
theorem compR_eq {p t : AF} (h : (compR p t).2 = 0) : (compR p t).1 = beh (beh idA p) t := by
  unfold compR at *
  split at h
  · exact absurd h (by decide)
  split at h
  · exact absurd h (by decide)
  split at h
  · exact absurd h (by decide)
  split at h
  · exact absurd h (by decide)
  · rename_i h1 h2 h3 h4
    rw [if_neg h1, if_neg h2, if_neg h3, if_neg h4]

theorem mid_add (n d : Int) : midQ (n + d) = midQ n + ((256 * d : Int) : Rat) := by
  unfold midQ
  rw [← Rat.intCast_add]
  congr 1
  omega

/-- Behind a translation by whole pixels the pixels move. -/
theorem at_moved {p : Pnt} {t : AF} {x y dx dy : Int} (hu : (compR t (trA ((256 * dx : Int) : Rat) ((256 * dy : Int) : Rat))).2 = 0) (h1 : nbErr p t = 0) (h2 : nbErr p (compR t (trA ((256 * dx : Int) : Rat) ((256 * dy : Int) : Rat))).1 = 0)
    (i1 : inR x ∧ inR y) (i2 : inR (x + dx) ∧ inR (y + dy)) : atP p t x y = atP p (compR t (trA ((256 * dx : Int) : Rat) ((256 * dy : Int) : Rat))).1 (x + dx) (y + dy) := by
  have ein : ∀ t x y, inR x ∧ inR y → atP p t x y = (if p.k = 1 then preP p.c else srcP p (uQ p t x y) (vQ p t x y)) := fun t x y h => if_neg (fun k => k h)
  rw [ein _ _ _ i1, ein _ _ _ i2]
  by_cases hk : p.k = 1
  · rw [if_pos hk, if_pos hk]
  rw [if_neg hk, if_neg hk]
  obtain ⟨_, c1, v1, _⟩ := (nb_ok h1).2.resolve_left hk
  obtain ⟨_, c2, v2, _⟩ := (nb_ok h2).2.resolve_left hk
  obtain ⟨d1, e1⟩ := invR_ok v1
  obtain ⟨d2, e2⟩ := invR_ok v2
  have key : uQ p t x y = uQ p (compR t (trA ((256 * dx : Int) : Rat) ((256 * dy : Int) : Rat))).1 (x + dx) (y + dy) ∧ vQ p t x y = vQ p (compR t (trA ((256 * dx : Int) : Rat) ((256 * dy : Int) : Rat))).1 (x + dx) (y + dy) := by
    unfold uQ vQ backA
    rw [e1, e2]
    have b1 : bothA p t = beh (beh idA p.t) t := compR_eq c1
    have b2 : bothA p (compR t (trA ((256 * dx : Int) : Rat) ((256 * dy : Int) : Rat))).1 = beh (beh idA p.t) (compR t (trA ((256 * dx : Int) : Rat) ((256 * dy : Int) : Rat))).1 := compR_eq c2
    rw [compR_eq hu] at b2
    rw [compR_eq hu] at d2 ⊢
    rw [mid_add, mid_add]
    generalize bothA p (beh (beh idA t) (trA ((256 * dx : Int) : Rat) ((256 * dy : Int) : Rat))) = M2 at *
    generalize bothA p t = M1 at *
    obtain ⟨_, _, g3, g4⟩ := inv_back d1 (midQ x) (midQ y)
    generalize applX (invA M1) (midQ x) (midQ y) = z1 at *
    generalize applY (invA M1) (midQ x) (midQ y) = z2 at *
    obtain ⟨g1, g2, _, _⟩ := inv_back d2 z1 z2
    have fwd : applX M2 z1 z2 = midQ x + ((256 * dx : Int) : Rat) ∧ applY M2 z1 z2 = midQ y + ((256 * dy : Int) : Rat) := by
      have bx : ∀ t u x y, applX (beh t u) x y = applX u (applX t x y) (applY t x y) := fun t u x y => (beh_apply t u x y).1
      have by' : ∀ t u x y, applY (beh t u) x y = applY u (applX t x y) (applY t x y) := fun t u x y => (beh_apply t u x y).2
      have ix : ∀ x y, applX idA x y = x := fun x y => (idA_apply x y).1
      have iy : ∀ x y, applY idA x y = y := fun x y => (idA_apply x y).2
      have tx : ∀ p q x y, applX (trA p q) x y = x + p := fun p q x y => (trA_apply p q x y).1
      have ty : ∀ p q x y, applY (trA p q) x y = y + q := fun p q x y => (trA_apply p q x y).2
      subst b1 b2
      simp only [bx, by', ix, iy] at g3 g4
      simp only [bx, by', ix, iy, tx, ty, g3, g4]
      exact ⟨trivial, trivial⟩
    rw [fwd.1, fwd.2] at g1 g2
    exact ⟨g1.symm, g2.symm⟩
  rw [key.1, key.2]

end Go.Gs
/- The laws Rows and Translation of paints. -/
namespace Go.Gs
open Go.Proofs

theorem rowP_at {f : Int → Int → Pix} {x y : Int} {m i : Nat} {q : Pix} (h : (rowP f x y m)[i]? = some q) : q = rowAt f x y i := by
  unfold rowP at h
  rw [List.getElem?_map] at h
  have hi : i < m := by
    cases hr : (List.range m)[i]? with
    | none => simp [hr] at h
    | some k => have := (List.getElem?_eq_some_iff.1 hr).1; simpa using this
  rw [List.getElem?_range hi] at h
  simpa using h.symm

/-- What both brushes of the law Rows have in common: a brush that answers 'f', which is zero beside the plane. -/
theorem rowAt_far {f : Int → Int → Pix} (hf : ∀ x y, 4096 < x → f x y = zeroP) (x y : Int) (i : Nat) : rowAt f x y i = if x ≤ 4096 - (i : Int) then f (x + i) y else zeroP := by
  unfold rowAt
  split
  · rw [if_neg (by omega)]
  · split
    · rfl
    · exact hf _ _ (by omega)
theorem atP_far (p : Pnt) (t : AF) : ∀ x y, 4096 < x → atP p t x y = zeroP := fun x y h => by
  rw [atP, if_pos]; exact fun k => by have := k.1; unfold inR at this; omega

set_option maxRecDepth 100000 in
set_option maxHeartbeats 4000000 in
theorem a_composeM (p t : AF) (hp : p.le 100) (ht : t.le 100) : CallsG Tryz.prog 24 [.own 0] [(0, .arr 36 afE 24 [p, t])] (.tup [.agg (afE (compR p t).1), i64 (compR p t).2]) [(0, .arr 36 afE 24 [p, t])] := by
  have bad : compR p t = (zeroAF, 5) → LE (.tup [.agg zero24, i64 5]) (.tup [.agg (afE (compR p t).1), i64 (compR p t).2]) := fun h => by
    rw [h]; exact LE_tup2 LE_zero24 .refl
  refine calls_mut tok mix Tryz.func24 rfl rfl rfl (fun _ _ => rfl) rfl ?_
  refine CallV.to _ a_identity rfl ?_
  intro _
  refine ⟨Nat, fun i => ⟨[(12, i64 i), (11, i64 2), (10, .own 0), (4, .loc 2 0), (2, .loc 1 0), (0, .own 0)], [(2, .box 36 (afE idA)), (1, .box 36 zero24), (0, .arr 36 afE 24 [p, t])], 3, 37, 1⟩,
    fun i => i ≤ 2 ∧ (1 ≤ i → p.ok) ∧ (2 ≤ i → t.ok), fun i => 2 - i, 0, ⟨by decide, fun h => by omega, fun h => by omega⟩, ?_, ?_⟩
  · exact sub_of [(0, some 0), (1, some 1), (2, some 2)] rfl rfl rfl ⟨rfl, rfl, rfl, rfl, rfl, rfl, trivial⟩ ⟨rfl, rfl, rfl, trivial⟩
  rintro i ⟨hi, o1, o2⟩
  have hi : i = 0 ∨ i = 1 ∨ i = 2 := by omega
  rcases hi with rfl | rfl | rfl
  · refine Br.mk (fun _ => ?_) (fun h => absurd (by decide) h)
    refine Ob.mk ⟨by decide, by show (0 : Int) < 2; decide⟩ ?_
    refine Ob.mk ⟨by decide, by show (0 : Int) < 2; decide⟩ ?_
    intro x hx
    cases hx
    refine CallV.to _ (a_valid p (hp.up (by decide))) rfl ?_
    refine Br.mk (fun h => ⟨rfl, bad (if_pos h)⟩) (fun h => ?_)
    refine Ar.fit (by decide) ?_
    exact ⟨1, ⟨by decide, fun _ => Decidable.not_not.1 h, fun h => by omega⟩, sub_of [(0, some 0), (1, some 1), (2, some 2)] rfl rfl rfl ⟨rfl, rfl, rfl, rfl, rfl, rfl, trivial⟩ ⟨rfl, rfl, rfl, trivial⟩, by decide⟩
  · refine Br.mk (fun _ => ?_) (fun h => absurd (by decide) h)
    refine Ob.mk ⟨by decide, by show (1 : Int) < 2; decide⟩ ?_
    refine Ob.mk ⟨by decide, by show (1 : Int) < 2; decide⟩ ?_
    intro x hx
    cases hx
    have o1 := o1 (by decide)
    refine CallV.to _ (a_valid t (ht.up (by decide))) rfl ?_
    refine Br.mk (fun h => ⟨rfl, bad ((if_neg (fun k => k o1)).trans (if_pos h))⟩) (fun h => ?_)
    refine Ar.fit (by decide) ?_
    exact ⟨2, ⟨by decide, fun _ => o1, fun _ => Decidable.not_not.1 h⟩, sub_of [(0, some 0), (1, some 1), (2, some 2)] rfl rfl rfl ⟨rfl, rfl, rfl, rfl, rfl, rfl, trivial⟩ ⟨rfl, rfl, rfl, trivial⟩, by decide⟩
  refine Br.mk (fun h => absurd h (by decide)) (fun _ => ?_)
  have o1 := o1 (by decide)
  have o2 := o2 (by decide)
  intro _
  have e0 : compR p t = if ¬ (beh idA p).ok then (zeroAF, 5) else if ¬ (beh (beh idA p) t).ok then (zeroAF, 5) else (beh (beh idA p) t, 0) := (if_neg (fun k => k o1)).trans (if_neg (fun k => k o2))
  have l1 := beh_le (n := 100) (idA_le.up (by decide)) hp
  have stg : ∀ i : Nat, ∃ A : AF, A = if i = 0 then idA else if i = 1 then beh idA p else beh (beh idA p) t := fun i => ⟨_, rfl⟩
  refine ⟨Nat, fun i => ⟨[(23, i64 i), (22, i64 2), (21, .own 0), (4, .loc 2 0), (2, .loc 1 0)], [(2, .box 36 (afE (if i = 0 then idA else if i = 1 then beh idA p else beh (beh idA p) t))), (1, .box 36 zero24), (0, .arr 36 afE 24 [p, t])], 3, 37, 1⟩,
    fun i => i ≤ 2 ∧ (1 ≤ i → (beh idA p).ok) ∧ (2 ≤ i → (beh (beh idA p) t).ok), fun i => 2 - i, 0, ⟨by decide, fun h => by omega, fun h => by omega⟩, ?_, ?_⟩
  · exact sub_of [(0, some 0), (1, some 1), (2, some 2)] rfl rfl rfl ⟨rfl, rfl, rfl, rfl, rfl, trivial⟩ ⟨rfl, rfl, rfl, trivial⟩
  rintro i ⟨hi, s1, s2⟩
  have hi : i = 0 ∨ i = 1 ∨ i = 2 := by omega
  rcases hi with rfl | rfl | rfl
  · refine Br.mk (fun _ => ?_) (fun h => absurd (by decide) h)
    refine Ob.mk ⟨by decide, by show (0 : Int) < 2; decide⟩ ?_
    refine Ob.mk ⟨by decide, by show (0 : Int) < 2; decide⟩ ?_
    intro x hx
    cases hx
    refine CallV.to _ (a_behind idA p (idA_le.up (by decide)) (hp.up (by decide))) rfl ?_
    refine CallV.to _ (a_valid (beh idA p) (l1.up (by decide))) rfl ?_
    refine Br.mk (fun h => ⟨rfl, bad (e0.trans (if_pos h))⟩) (fun h => ?_)
    refine Ar.fit (by decide) ?_
    exact ⟨1, ⟨by decide, fun _ => Decidable.not_not.1 h, fun h => by omega⟩, sub_of [(0, some 0), (1, some 1), (2, some 2)] rfl rfl rfl ⟨rfl, rfl, rfl, rfl, rfl, trivial⟩ ⟨rfl, rfl, rfl, trivial⟩, by decide⟩
  · refine Br.mk (fun _ => ?_) (fun h => absurd (by decide) h)
    refine Ob.mk ⟨by decide, by show (1 : Int) < 2; decide⟩ ?_
    refine Ob.mk ⟨by decide, by show (1 : Int) < 2; decide⟩ ?_
    intro x hx
    cases hx
    have s1 := s1 (by decide)
    have l2 := beh_le (n := 100) ((beh_ok_le s1).up (by decide)) ht
    refine CallV.to _ (a_behind (beh idA p) t ((beh_ok_le s1).up (by decide)) (ht.up (by decide))) rfl ?_
    refine CallV.to _ (a_valid (beh (beh idA p) t) (l2.up (by decide))) rfl ?_
    refine Br.mk (fun h => ⟨rfl, bad (e0.trans ((if_neg (fun k => k s1)).trans (if_pos h)))⟩) (fun h => ?_)
    refine Ar.fit (by decide) ?_
    exact ⟨2, ⟨by decide, fun _ => s1, fun _ => Decidable.not_not.1 h⟩, sub_of [(0, some 0), (1, some 1), (2, some 2)] rfl rfl rfl ⟨rfl, rfl, rfl, rfl, rfl, trivial⟩ ⟨rfl, rfl, rfl, trivial⟩, by decide⟩
  refine Br.mk (fun h => absurd h (by decide)) (fun _ => ?_)
  have s1 := s1 (by decide)
  have s2 := s2 (by decide)
  refine CallV.to _ (a_normalize (beh (beh idA p) t) ((beh_ok_le s2).up (by decide))) rfl ?_
  rw [beh_nrm, e0.trans ((if_neg (fun k => k s1)).trans (if_neg (fun k => k s2)))]
  exact ⟨rfl, LE_tup2 .refl .refl⟩

set_option maxRecDepth 100000 in
set_option maxHeartbeats 16000000 in
theorem c_lawRows (p : Pnt) (t : AF) (x y n : Int) (h8 : P8p p) (hx : R64 x) : CallsG Tryz.prog 8 [.agg (pntE p), .agg (afE t), i64 x, i64 y, i64 n] [] (bl true) [] := by
  have hx' := hx
  unfold R64 at hx'
  refine calls_to tok mix Tryz.func8 rfl rfl rfl ?_
  refine CallV.to _ (c_few34 p t) rfl ?_
  refine Br.mk (fun h1 => ?_) (fun h1 => ?_)
  · refine CallV.to _ c_example34 rfl ?_
    exact .refl
  obtain ⟨hf, ht⟩ := Decidable.not_not.1 h1
  refine Br.mk (fun h2 => ?_) (fun h2 => ?_)
  · refine Br.mk (fun h3 => ?_) (fun h3 => ?_)
    · refine CallV.to _ c_example34 rfl ?_
      exact .refl
    refine Br.mk (fun h4 => ?_) (fun h4 => ?_)
    · refine CallV.to _ c_example34 rfl ?_
      exact .refl
    by_cases he : nbErr p t = 0
    · obtain ⟨cs, hn, ha⟩ := c_brush p t hf ht h8 he
      refine CallV.to _ hn rfl ?_
      refine CallV.to _ (c_rowd cs (atP p t) ha x y n hx) rfl ?_
      intro _
      refine Br.mk (fun h => absurd (by rw [rowP_len]; show _ = max 0 (min n 4096); omega) h) (fun _ => ?_)
      refine ⟨Nat, fun i => ⟨[(2, i64 x), (3, i64 y), (11, .dptr cs), (13, .sl pixE (rowP (atP p t) x y (max 0 (min n 4096)).toNat)), (14, i64 i)], [], 0, 75, 0⟩, fun i => i ≤ (max 0 (min n 4096)).toNat, fun i => (max 0 (min n 4096)).toNat - i, 0, ?_, ?_, ?_⟩
      · exact Nat.zero_le _
      · exact sub_of [] rfl rfl rfl ⟨rfl, rfl, rfl, rfl, rfl, trivial⟩ trivial
      intro i hi
      intro _
      refine Br.mk (fun h5 => ?_) (fun _ => ?_)
      · rw [rowP_len] at h5
        refine Ar.fit (by omega) ?_
        refine Br.mk (fun h6 => ?_) (fun h6 => ?_)
        · refine Ar.fit (by omega) ?_
          refine CallV.to _ (ha (x + (i : Int)) y) rfl ?_
          refine Dr.mk (by decide +kernel) ?_
          refine Ob.mk (by rw [rowP_len]; omega) ?_
          intro q hq
          have hq := (rowP_at hq).trans ((rowAt_far (atP_far p t) x y i).trans (if_pos h6))
          subst hq
          refine Br.mk (fun h => absurd (pix_eq.2 rfl) h) (fun _ => ?_)
          refine Ar.fit (by omega) ?_
          exact ⟨i + 1, (by show i + 1 ≤ _; omega), sub_of [] rfl rfl rfl ⟨rfl, rfl, rfl, rfl, rfl, trivial⟩ trivial, by dsimp only; omega⟩
        · refine Dr.mk (by decide +kernel) ?_
          refine Ob.mk (by rw [rowP_len]; omega) ?_
          intro q hq
          have hq := (rowP_at hq).trans ((rowAt_far (atP_far p t) x y i).trans (if_neg h6))
          subst hq
          refine Br.mk (fun h => absurd (pix_eq.2 rfl) h) (fun _ => ?_)
          refine Ar.fit (by omega) ?_
          exact ⟨i + 1, (by show i + 1 ≤ _; omega), sub_of [] rfl rfl rfl ⟨rfl, rfl, rfl, rfl, rfl, trivial⟩ trivial, by dsimp only; omega⟩
      · refine CallV.to _ c_example34 rfl ?_
        exact .refl
    · have hn := c_brushbad p t hf ht he
      refine CallV.to _ hn rfl ?_
      refine CallV.to _ (c_rownil (fun _ _ => zeroP) c_atnil x y n hx) rfl ?_
      intro _
      refine Br.mk (fun h => absurd (by rw [rowP_len]; show _ = max 0 (min n 4096); omega) h) (fun _ => ?_)
      refine ⟨Nat, fun i => ⟨[(2, i64 x), (3, i64 y), (11, nilP), (13, .sl pixE (rowP (fun _ _ => zeroP) x y (max 0 (min n 4096)).toNat)), (14, i64 i)], [], 0, 75, 0⟩, fun i => i ≤ (max 0 (min n 4096)).toNat, fun i => (max 0 (min n 4096)).toNat - i, 0, ?_, ?_, ?_⟩
      · exact Nat.zero_le _
      · exact sub_of [] rfl rfl rfl ⟨rfl, rfl, rfl, rfl, rfl, trivial⟩ trivial
      intro i hi
      intro _
      refine Br.mk (fun h5 => ?_) (fun _ => ?_)
      · rw [rowP_len] at h5
        refine Ar.fit (by omega) ?_
        refine Br.mk (fun h6 => ?_) (fun h6 => ?_)
        · refine Ar.fit (by omega) ?_
          refine CallV.to _ (c_atnil (x + (i : Int)) y) rfl ?_
          refine Dr.mk (by decide +kernel) ?_
          refine Ob.mk (by rw [rowP_len]; omega) ?_
          intro q hq
          have hq := (rowP_at hq).trans ((rowAt_far (fun _ _ _ => rfl) x y i).trans (if_pos h6))
          subst hq
          refine Br.mk (fun h => absurd (pix_eq.2 rfl) h) (fun _ => ?_)
          refine Ar.fit (by omega) ?_
          exact ⟨i + 1, (by show i + 1 ≤ _; omega), sub_of [] rfl rfl rfl ⟨rfl, rfl, rfl, rfl, rfl, trivial⟩ trivial, by dsimp only; omega⟩
        · refine Dr.mk (by decide +kernel) ?_
          refine Ob.mk (by rw [rowP_len]; omega) ?_
          intro q hq
          have hq := (rowP_at hq).trans ((rowAt_far (fun _ _ _ => rfl) x y i).trans (if_neg h6))
          subst hq
          refine Br.mk (fun h => absurd (pix_eq.2 rfl) h) (fun _ => ?_)
          refine Ar.fit (by omega) ?_
          exact ⟨i + 1, (by show i + 1 ≤ _; omega), sub_of [] rfl rfl rfl ⟨rfl, rfl, rfl, rfl, rfl, trivial⟩ trivial, by dsimp only; omega⟩
      · refine CallV.to _ c_example34 rfl ?_
        exact .refl
  · refine Br.mk (fun h4 => ?_) (fun h4 => ?_)
    · refine CallV.to _ c_example34 rfl ?_
      exact .refl
    by_cases he : nbErr p t = 0
    · obtain ⟨cs, hn, ha⟩ := c_brush p t hf ht h8 he
      refine CallV.to _ hn rfl ?_
      refine CallV.to _ (c_rowd cs (atP p t) ha x y n hx) rfl ?_
      intro _
      refine Br.mk (fun h => absurd (by rw [rowP_len]; show _ = max 0 (min n 4096); omega) h) (fun _ => ?_)
      refine ⟨Nat, fun i => ⟨[(2, i64 x), (3, i64 y), (11, .dptr cs), (13, .sl pixE (rowP (atP p t) x y (max 0 (min n 4096)).toNat)), (14, i64 i)], [], 0, 75, 0⟩, fun i => i ≤ (max 0 (min n 4096)).toNat, fun i => (max 0 (min n 4096)).toNat - i, 0, ?_, ?_, ?_⟩
      · exact Nat.zero_le _
      · exact sub_of [] rfl rfl rfl ⟨rfl, rfl, rfl, rfl, rfl, trivial⟩ trivial
      intro i hi
      intro _
      refine Br.mk (fun h5 => ?_) (fun _ => ?_)
      · rw [rowP_len] at h5
        refine Ar.fit (by omega) ?_
        refine Br.mk (fun h6 => ?_) (fun h6 => ?_)
        · refine Ar.fit (by omega) ?_
          refine CallV.to _ (ha (x + (i : Int)) y) rfl ?_
          refine Dr.mk (by decide +kernel) ?_
          refine Ob.mk (by rw [rowP_len]; omega) ?_
          intro q hq
          have hq := (rowP_at hq).trans ((rowAt_far (atP_far p t) x y i).trans (if_pos h6))
          subst hq
          refine Br.mk (fun h => absurd (pix_eq.2 rfl) h) (fun _ => ?_)
          refine Ar.fit (by omega) ?_
          exact ⟨i + 1, (by show i + 1 ≤ _; omega), sub_of [] rfl rfl rfl ⟨rfl, rfl, rfl, rfl, rfl, trivial⟩ trivial, by dsimp only; omega⟩
        · refine Dr.mk (by decide +kernel) ?_
          refine Ob.mk (by rw [rowP_len]; omega) ?_
          intro q hq
          have hq := (rowP_at hq).trans ((rowAt_far (atP_far p t) x y i).trans (if_neg h6))
          subst hq
          refine Br.mk (fun h => absurd (pix_eq.2 rfl) h) (fun _ => ?_)
          refine Ar.fit (by omega) ?_
          exact ⟨i + 1, (by show i + 1 ≤ _; omega), sub_of [] rfl rfl rfl ⟨rfl, rfl, rfl, rfl, rfl, trivial⟩ trivial, by dsimp only; omega⟩
      · refine CallV.to _ c_example34 rfl ?_
        exact .refl
    · have hn := c_brushbad p t hf ht he
      refine CallV.to _ hn rfl ?_
      refine CallV.to _ (c_rownil (fun _ _ => zeroP) c_atnil x y n hx) rfl ?_
      intro _
      refine Br.mk (fun h => absurd (by rw [rowP_len]; show _ = max 0 (min n 4096); omega) h) (fun _ => ?_)
      refine ⟨Nat, fun i => ⟨[(2, i64 x), (3, i64 y), (11, nilP), (13, .sl pixE (rowP (fun _ _ => zeroP) x y (max 0 (min n 4096)).toNat)), (14, i64 i)], [], 0, 75, 0⟩, fun i => i ≤ (max 0 (min n 4096)).toNat, fun i => (max 0 (min n 4096)).toNat - i, 0, ?_, ?_, ?_⟩
      · exact Nat.zero_le _
      · exact sub_of [] rfl rfl rfl ⟨rfl, rfl, rfl, rfl, rfl, trivial⟩ trivial
      intro i hi
      intro _
      refine Br.mk (fun h5 => ?_) (fun _ => ?_)
      · rw [rowP_len] at h5
        refine Ar.fit (by omega) ?_
        refine Br.mk (fun h6 => ?_) (fun h6 => ?_)
        · refine Ar.fit (by omega) ?_
          refine CallV.to _ (c_atnil (x + (i : Int)) y) rfl ?_
          refine Dr.mk (by decide +kernel) ?_
          refine Ob.mk (by rw [rowP_len]; omega) ?_
          intro q hq
          have hq := (rowP_at hq).trans ((rowAt_far (fun _ _ _ => rfl) x y i).trans (if_pos h6))
          subst hq
          refine Br.mk (fun h => absurd (pix_eq.2 rfl) h) (fun _ => ?_)
          refine Ar.fit (by omega) ?_
          exact ⟨i + 1, (by show i + 1 ≤ _; omega), sub_of [] rfl rfl rfl ⟨rfl, rfl, rfl, rfl, rfl, trivial⟩ trivial, by dsimp only; omega⟩
        · refine Dr.mk (by decide +kernel) ?_
          refine Ob.mk (by rw [rowP_len]; omega) ?_
          intro q hq
          have hq := (rowP_at hq).trans ((rowAt_far (fun _ _ _ => rfl) x y i).trans (if_neg h6))
          subst hq
          refine Br.mk (fun h => absurd (pix_eq.2 rfl) h) (fun _ => ?_)
          refine Ar.fit (by omega) ?_
          exact ⟨i + 1, (by show i + 1 ≤ _; omega), sub_of [] rfl rfl rfl ⟨rfl, rfl, rfl, rfl, rfl, trivial⟩ trivial, by dsimp only; omega⟩
      · refine CallV.to _ c_example34 rfl ?_
        exact .refl

theorem trA_len (d : Int) (h : -128 ≤ d ∧ d ≤ 127) : (ofQ ((256 * d : Int) : Rat)).len ≤ 10 := by
  have := qlen_i64 (n := 256 * d) (by unfold R64; omega)
  rw [ofQ_len]; omega
theorem c_trA (a b : Int) (ha : -128 ≤ a ∧ a ≤ 127) (hb : -128 ≤ b ∧ b ≤ 127) : CallsG Tryz.prog 25 [.agg (brE (ofQ ((256 * a : Int) : Rat))), .agg (brE (ofQ ((256 * b : Int) : Rat)))] []
    (.agg (afE (trA ((256 * a : Int) : Rat) ((256 * b : Int) : Rat)))) [] := by
  have := a_translate (ofQ ((256 * a : Int) : Rat)) (ofQ ((256 * b : Int) : Rat)) (by have := trA_len a ha; omega) (by have := trA_len b hb; omega)
  rw [ofQ_v, ofQ_v] at this
  exact this
theorem trA_le (a b : Int) (ha : -128 ≤ a ∧ a ≤ 127) (hb : -128 ≤ b ∧ b ≤ 127) : (trA ((256 * a : Int) : Rat) ((256 * b : Int) : Rat)).le 100 := by
  have h1 := qlen_i64 (n := 1) (by decide)
  have h0 := qlen_i64 (n := 0) (by decide)
  have la := trA_len a ha
  have lb := trA_len b hb
  rw [ofQ_len] at la lb
  refine ⟨?_, ?_, ?_, ?_, ?_, ?_⟩ <;> (show (ofQ _).len ≤ 100; rw [ofQ_len]; omega)

set_option maxRecDepth 100000 in
set_option maxHeartbeats 16000000 in
theorem c_lawTrans (p : Pnt) (t : AF) (x y dx dy : Int) (h8 : P8p p) (hx : -128 ≤ x ∧ x ≤ 127) (hy : -128 ≤ y ∧ y ≤ 127) (ha : -128 ≤ dx ∧ dx ≤ 127) (hb : -128 ≤ dy ∧ dy ≤ 127) :
    CallsG Tryz.prog 7 [.agg (pntE p), .agg (afE t), i8 x, i8 y, i8 dx, i8 dy] [] (bl true) [] := by
  refine calls_to tok mix Tryz.func7 rfl rfl rfl ?_
  refine CallV.to _ (c_few34 p t) rfl ?_
  refine Br.mk (fun h1 => ?_) (fun h1 => ?_)
  · refine CallV.to _ c_example34 rfl ?_
    exact .refl
  obtain ⟨hf, ht⟩ := Decidable.not_not.1 h1
  refine Dr.dyn (Ob.mk (by decide +kernel) ?_)
  refine Ar.fit (by omega) ?_
  refine Ar.fit (by omega) ?_
  refine CallV.to _ (r3_fromInt (256 * dx) (by unfold R64; omega)) rfl ?_
  refine Ar.fit (by omega) ?_
  refine Ar.fit (by omega) ?_
  refine CallV.to _ (r3_fromInt (256 * dy) (by unfold R64; omega)) rfl ?_
  refine CallV.to _ (c_trA dx dy ha hb) rfl ?_
  refine ⟨AF, afE, [t, trA ((256 * dx : Int) : Rat) ((256 * dy : Int) : Rat)], rfl, Ob.mk ⟨rfl, by decide, by decide, by decide, fun x _ => ⟨rfl, rfl, rfl⟩⟩ ?_⟩
  refine CallV.hand 2 _ _ _ rfl (a_composeM t (trA ((256 * dx : Int) : Rat) ((256 * dy : Int) : Rat)) (ht.up (by decide)) (trA_le dx dy ha hb)) (fun _ _ => rfl) (fun _ _ => rfl) rfl rfl ?_
  refine Ob.mk (by kernel_rfl) ?_
  obtain ⟨u, hu⟩ : ∃ u, u = compR t (trA ((256 * dx : Int) : Rat) ((256 * dy : Int) : Rat)) := ⟨_, rfl⟩
  rw [← hu]
  refine Br.mk (fun h2 => ?_) (fun h2 => ?_)
  · refine CallV.to _ c_example34 rfl ?_
    exact .refl
  have h2 := Decidable.not_not.1 h2
  have lu : u.1.le 12 := by subst hu; exact (compR_le h2).up (by decide)
  by_cases he : nbErr p t = 0
  rotate_left
  · refine CallV.to _ (c_brushbad p t hf ht he) rfl ?_
    by_cases hg : nbErr p u.1 = 0
    · obtain ⟨c2, n2, _⟩ := c_brush p u.1 hf lu h8 hg
      refine CallV.to _ n2 rfl ?_
      refine Br.mk (fun _ => ?_) (fun h => absurd he h)
      refine CallV.to _ c_example34 rfl ?_
      exact .refl
    · refine CallV.to _ (c_brushbad p u.1 hf lu hg) rfl ?_
      refine Br.mk (fun _ => ?_) (fun h => absurd he h)
      refine CallV.to _ c_example34 rfl ?_
      exact .refl
  obtain ⟨c1, n1, a1⟩ := c_brush p t hf ht h8 he
  refine CallV.to _ n1 rfl ?_
  by_cases hg : nbErr p u.1 = 0
  rotate_left
  · refine CallV.to _ (c_brushbad p u.1 hf lu hg) rfl ?_
    refine Br.mk (fun h => absurd rfl h) (fun _ => ?_)
    refine Br.mk (fun _ => ?_) (fun h => absurd hg h)
    refine CallV.to _ c_example34 rfl ?_
    exact .refl
  obtain ⟨c2, n2, a2⟩ := c_brush p u.1 hf lu h8 hg
  refine CallV.to _ n2 rfl ?_
  refine Br.mk (fun h => absurd rfl h) (fun _ => ?_)
  refine Br.mk (fun h => absurd rfl h) (fun _ => ?_)
  have key : atP p t x y = atP p u.1 (x + dx) (y + dy) := by
    subst hu
    exact at_moved h2 he hg ⟨by unfold inR; omega, by unfold inR; omega⟩ ⟨by unfold inR; omega, by unfold inR; omega⟩
  refine Ar.fit (by omega) ?_
  refine Ar.fit (by omega) ?_
  refine CallV.to _ (a1 x y) rfl ?_
  refine Ar.fit (by omega) ?_
  refine Ar.fit (by omega) ?_
  refine Ar.fit (by omega) ?_
  refine Ar.fit (by omega) ?_
  refine Ar.fit (by omega) ?_
  refine Ar.fit (by omega) ?_
  refine CallV.to _ (a2 (x + dx) (y + dy)) rfl ?_
  refine Br.mk (fun _ => ?_) (fun h => absurd (pix_eq.2 key) h)
  refine CallV.to _ c_example34 rfl ?_
  exact .refl

end Go.Gs
/- From a contract of a law to the walk that its row asks for. -/
namespace Go.Gs

/-- A law that, by its contract, answers true. -/
theorem law_walk {P : Program} {f : FuncId} {args : List SV} {vs : List Value} {w : World} (h : CallsG P f args [] (bl true) [])
    (hg : ∀ S Pm : Nat → Prop, (∀ b, ¬ S b) → (∀ b, ¬ Pm b) → Gs S Pm (fun _ => none) w args vs) :
    Calls P f vs.toArray w fun e w' => e = .returned (.bool true) ∧ RowKit.Grown w w' := by
  refine (h.2 (fun _ => False) (fun _ => none) w vs (fun _ h => h.elim) (memOK_nil (fun _ h => h.elim)) (fun _ _ => rfl) (hg _ _ (fun b hb => hb.elim id own_nil) (fun b => own_nil))).mono ?_
  rintro e w' ⟨v, ρ', rfl, hs, _, hv⟩
  refine ⟨by rw [hv.val_inv], ⟨hs.os, hs.output.1, fun i hi => ?_⟩, hs.output.2, hs.size⟩
  rw [hs.block i hi own_nil]
  cases w.heap[i]? with
  | none => rfl
  | some o => cases o <;> simp

/-- And nothing that was there has turned. -/
theorem law_walk' {P : Program} {f : FuncId} {args : List SV} {vs : List Value} {w : World} (h : CallsG P f args [] (bl true) [])
    (hg : ∀ S Pm : Nat → Prop, (∀ b, ¬ S b) → (∀ b, ¬ Pm b) → Gs S Pm (fun _ => none) w args vs) :
    Calls P f vs.toArray w fun e w' => e = .returned (.bool true) ∧ RowKit.Grown w w' ∧ RowKit.Below w.heap.size w w' := by
  refine (h.2 (fun _ => False) (fun _ => none) w vs (fun _ h => h.elim) (memOK_nil (fun _ h => h.elim)) (fun _ _ => rfl) (hg _ _ (fun b hb => hb.elim id own_nil) (fun b => own_nil))).mono ?_
  rintro e w' ⟨v, ρ', rfl, hs, _, hv⟩
  refine ⟨by rw [hv.val_inv], ⟨⟨hs.os, hs.output.1, fun i hi => ?_⟩, hs.output.2, hs.size⟩, ⟨hs.os, hs.tape, hs.output.1, hs.size, fun i hi => hs.block i hi own_nil⟩⟩
  rw [hs.block i hi own_nil]
  cases w.heap[i]? with
  | none => rfl
  | some o => cases o <;> simp

/-- The arguments, one by one. -/
theorem Gs.val {S Pm : Nat → Prop} {ρ : Names} {w : World} {v : Value} {cs : List SV} {vs : List Value} (h : Gs S Pm ρ w cs vs) : Gs S Pm ρ w (.val v :: cs) (v :: vs) := .cons (.d _ _ (.val v)) h

theorem r64 {n : Int} (h : (Lit.int .i64 n).wf = true) : R64 n := by
  simp only [Lit.wf, Bool.and_eq_true, decide_eq_true_eq] at h
  exact h
theorem r8 {n : Int} (h : (Lit.int .u8 n).wf = true) : R8 n := by
  simp only [Lit.wf, Bool.and_eq_true, decide_eq_true_eq] at h
  exact h

end Go.Gs
/- Arguments laid open: slices of structs of integers. -/
namespace Go.Gs
open Go.ChangeShapes Go.WideShapes Go.Deep Go.Joins Go.RowKit

section
variable {H : Type} {enc : TypeId × Value → H} {P : Program} {w : World} {base : Nat} {held : Bool}

/-- What is read of a slice of structs of integers. -/
theorem open_sl_ints {t e : TypeId} {fs : Array Field} {fuel : Nat} {v : Value} {x : DataW H × List MemPlace} (ks : List IntKind) (ht : P.underlying t = some (.slice e)) (he : P.underlying e = some (.struct fs))
    (hone : oneCellFields P fs = true) (hC : P.cellsOf e = ks.length) (hk : ∀ (j : Nat) (k : IntKind), ks[j]? = some k → ∃ f, fs[j]? = some f ∧ P.underlying f.type = some (.int k))
    (h : DataW.trod enc P w base (fun _ => true) held fuel t [v] = some x) :
    v = .slice none 0 0 ∨ ∃ (a : Addr) (len cap : Nat) (R : Nat → Nat → Int), v = .slice (some a) len cap ∧ len ≤ cap ∧ cap ≤ maxLen ∧
      ∀ (i j : Nat) (k : IntKind), i < len → ks[j]? = some k → w.cell? (a.add (i * ks.length + j)) = some (.int k (R i j)) ∧ (Lit.int k (R i j)).wf = true := by
  rcases open_slice ht h with ⟨h0, _⟩ | ⟨a, len, cap, m, n, D, Pl, hcs, _, hl, hm, hmm, _, hi⟩
  · simp only [List.cons.injEq, and_true] at h0
    exact .inl h0
  · simp only [List.cons.injEq, and_true] at hcs
    refine .inr ⟨a, len, cap, fun i j => match w.cell? (a.add (i * ks.length + j)) with
      | some (.int _ n) => n
      | _ => 0, hcs, hl, hm, fun i j k hil hjk => ?_⟩
    obtain ⟨f, hf, hu⟩ := hk j k hjk
    obtain ⟨cs', hc, ht'⟩ := hi i (by simp at hmm; omega)
    rw [hC] at hc
    obtain ⟨ys, n', hn', hy, hlen, hyl, hfl⟩ := DataW.trod_struct he ht'
    obtain ⟨_, hcl, hat⟩ := World.cells?_some hc
    obtain ⟨ho, hk1⟩ := hone_of hone j f hf
    have hjl : j < ks.length := (List.getElem?_eq_some_iff.1 hjk).1
    have hcell := hat j hjl
    have h1 := hfl j f hf
    rw [ho, hk1] at h1
    have hone' : (cs'.drop j).take 1 = [cs'[j]'(by omega)] := by
      rw [List.drop_eq_getElem_cons (by omega)]; rfl
    rw [hone'] at h1
    have hys : ys[j]? = some (ys[j]'(by have := (Array.getElem?_eq_some_iff.1 hf).1; omega)) := List.getElem?_eq_getElem _
    obtain ⟨q, hq, _, hw⟩ := DataW.trod_int hu (h1.trans hys)
    simp only [List.cons.injEq, and_true] at hq
    have hcc : w.cell? (a.add (i * ks.length + j)) = some (.int k q) := by
      rw [← Go.Deep.add_add, hcell, List.getElem?_eq_getElem (show j < cs'.length by omega), hq]
    simp only [hcc]
    exact ⟨trivial, hw⟩
/-- What is read of a slice of which each element is a row of integers. -/
theorem open_sl_cells {t e : TypeId} {fuel : Nat} {v : Value} {x : DataW H × List MemPlace} (ks : List IntKind) (ht : P.underlying t = some (.slice e)) (hC : P.cellsOf e = ks.length)
    (hcell : ∀ (n : Nat) (cs : List Value) (y : DataW H × List MemPlace), DataW.trod enc P w base (fun _ => true) held n e cs = some y → ∀ (j : Nat) (k : IntKind), ks[j]? = some k → ∃ q : Int, cs[j]? = some (.int k q) ∧ (Lit.int k q).wf = true)
    (h : DataW.trod enc P w base (fun _ => true) held fuel t [v] = some x) :
    v = .slice none 0 0 ∨ ∃ (a : Addr) (len cap : Nat) (R : Nat → Nat → Int), v = .slice (some a) len cap ∧ len ≤ cap ∧ cap ≤ maxLen ∧
      ∀ (i j : Nat) (k : IntKind), i < len → ks[j]? = some k → w.cell? (a.add (i * ks.length + j)) = some (.int k (R i j)) ∧ (Lit.int k (R i j)).wf = true := by
  rcases open_slice ht h with ⟨h0, _⟩ | ⟨a, len, cap, m, n, D, Pl, hcs, _, hl, hm, hmm, _, hi⟩
  · simp only [List.cons.injEq, and_true] at h0
    exact .inl h0
  · simp only [List.cons.injEq, and_true] at hcs
    refine .inr ⟨a, len, cap, fun i j => match w.cell? (a.add (i * ks.length + j)) with
      | some (.int _ n) => n
      | _ => 0, hcs, hl, hm, fun i j k hil hjk => ?_⟩
    obtain ⟨cs', hc, ht'⟩ := hi i (by simp at hmm; omega)
    rw [hC] at hc
    obtain ⟨q, hq, hw⟩ := hcell _ _ _ ht' j k hjk
    obtain ⟨_, hcl, hat⟩ := World.cells?_some hc
    have hjl : j < ks.length := (List.getElem?_eq_some_iff.1 hjk).1
    have hcell := hat j hjl
    have hcc : w.cell? (a.add (i * ks.length + j)) = some (.int k q) := by
      rw [← Go.Deep.add_add, hcell, hq]
    simp only [hcc]
    exact ⟨trivial, hw⟩
end

theorem wf_one {k : IntKind} {n : Int} : (Value.int k n).oneCell' = true := rfl

/-- A slice of structs of integers, as a list. -/
theorem d_sl_ints {S : Nat → Prop} {w : World} {α : Type} (enc : α → List SV) (f : Nat → α) (ks : List IntKind) (R : Nat → Nat → Int) {b o len cap : Nat} (hb : b < w.heap.size) (hS : ¬ S b)
    (hlen : len ≤ 9223372036854775807) (hcap : len ≤ cap) (hc : ∀ (i j : Nat) (k : IntKind), i < len → ks[j]? = some k → w.cell? ⟨b, o + (i * ks.length + j), none⟩ = some (.int k (R i j)))
    (hl : ∀ i, (enc (f i)).length = ks.length) (he : ∀ (i j : Nat) (k : IntKind), i < len → ks[j]? = some k → (enc (f i))[j]? = some (.val (.int k (R i j)))) :
    D S w (.sl enc ((List.range len).map f)) (.slice (some ⟨b, o, none⟩) len cap) := by
  have h := D.sl (S := S) (w := w) enc ((List.range len).map f) ks.length b o cap (fun i j => match ks[j]? with
    | some k => .int k (R i j)
    | none => undef) hb hS (by simpa using hlen) (by simpa using hcap) (fun x hx => by
      obtain ⟨i, _, rfl⟩ := List.mem_map.1 hx; exact hl i) (fun i j hi hj => by
      have hi : i < len := by simpa using hi
      have hk := List.getElem?_eq_getElem hj
      simp only [hk]
      refine ⟨?_, rfl⟩
      have := hc i j _ hi hk
      rw [← Nat.add_assoc] at this
      exact this) (fun i j x s hx hs => by
      have hi : i < len := by have := (List.getElem?_eq_some_iff.1 hx).1; simpa using this
      simp only [List.getElem?_map, List.getElem?_range hi, Option.map_some, Option.some.injEq] at hx
      subst hx
      have hj : j < ks.length := by have := (List.getElem?_eq_some_iff.1 hs).1; rw [hl] at this; exact this
      have hk := List.getElem?_eq_getElem hj
      have := he i j _ hi hk
      rw [hs] at this; cases this
      simp only [hk]
      exact .val _)
  simpa using h

/-- What has not turned below the heap's old size reads as it did. -/
theorem args_stay {H : Type} {enc : TypeId × Value → H} {P : Program} (hl : laidOutB P = true) {W W' : World} (hb : Below W.heap.size W W') {sp : Nat → Bool} :
    ∀ {ts : List TypeId} {vs : List Value} {ds : List (DataW H)} {ps : List MemPlace}, (ts.all fun t => P.readableRec t && decide (t < P.types.size)) = true →
      DataW.TrodAll enc P W 0 (fun _ => true) true ts vs ds ps → (∀ p ∈ ps, p.block < W.heap.size) → (∀ p ∈ ps, sp p.block = true) → DataW.TrodAll enc P W' 0 sp true ts vs ds ps
  | [], [], [], _, _, h, _, _ => h
  | t :: ts, v :: vs, d :: ds, ps, hts, ⟨p, q, h1, h2, e⟩, hlt, hsp => by
    simp only [List.all_cons, Bool.and_eq_true, decide_eq_true_eq] at hts
    have e1 : ∀ x ∈ p, x ∈ ps := fun x hx => by rw [e]; exact List.mem_append_left _ hx
    have e2 : ∀ x ∈ q, x ∈ ps := fun x hx => by rw [e]; exact List.mem_append_right _ hx
    refine ⟨p, q, WideElems.Trod_stays hl hts.1.1 hts.1.2 h1 (fun x hx => hb.same (hlt x (e1 x hx))) (fun x hx => hsp x (e1 x hx)), args_stay hl hb (by simpa using hts.2) h2 (fun x hx => hlt x (e2 x hx)) (fun x hx => hsp x (e2 x hx)), e⟩

/-- Integers side by side. -/
theorem g_ints {S Pm : Nat → Prop} {ρ : Names} {w : World} {cs : List SV} (l : List Value) (h : cs = l.map .val) : G S Pm ρ w (.agg cs) (.agg l.toArray) := by
  subst h
  refine .agg _ l (by simp) fun j s v hs hv => ?_
  simp only [List.getElem?_map, hv, Option.map_some, Option.some.injEq] at hs
  subst hs
  exact .d _ _ (.val v)

/-- An array of integers. -/
theorem open_arr_ints {H : Type} {enc : TypeId × Value → H} {P : Program} {w : World} {base b0 : Nat} {held : Bool} {sp : Nat → Bool} {r : Reach} {t e : TypeId} {n : Nat} {k : IntKind} {v : Value} {d : DataW H} {p : List MemPlace}
    (ht : P.underlying t = some (.array n e)) (he : P.underlying e = some (.int k)) (hce : P.cellsOf e = 1) (hC : P.cellsOf t = n) (hv : Value.okWide P w r b0 t v) (h : DataW.Trod enc P w base sp held t v d p) :
    ∃ R : Nat → Int, v = .agg ((List.range n).map fun j => Value.int k (R j)).toArray ∧ ∀ j, j < n → (Lit.int k (R j)).wf = true := by
  unfold Value.okWide at hv
  rw [ht] at hv
  obtain ⟨cs, rfl, hsz, _⟩ := hv
  obtain ⟨fuel, hf⟩ := h
  obtain ⟨xs, m, _, _, hlen, hxl, hi⟩ := DataW.trod_array ht hf
  have hlen : cs.toList.length = n := by simpa [Value.cells, hC] using hlen
  have key : ∀ j, j < n → ∃ q : Int, cs.toList[j]? = some (.int k q) ∧ (Lit.int k q).wf = true := fun j hj => by
    have h1 := hi j hj
    rw [hce, Nat.mul_one] at h1
    have h2 : ((Value.agg cs).cells.toList.drop j).take 1 = [cs.toList[j]'(by omega)] := by
      show (cs.toList.drop j).take 1 = _
      rw [List.drop_eq_getElem_cons (by omega)]; rfl
    rw [h2] at h1
    obtain ⟨q, hq, _, hw⟩ := DataW.trod_int he (h1.trans (List.getElem?_eq_getElem (show j < xs.length by omega)))
    simp only [List.cons.injEq, and_true] at hq
    exact ⟨q, by rw [List.getElem?_eq_getElem (by omega), hq], hw⟩
  obtain ⟨R, hR⟩ := choose_lt key
  refine ⟨R, ?_, fun j hj => (hR j hj).2⟩
  congr 1
  apply Array.toList_inj.1
  refine List.ext_getElem? fun j => ?_
  by_cases hj : j < n
  · rw [(hR j hj).1]; simp [hj]
  · rw [List.getElem?_eq_none (by omega), List.getElem?_eq_none (by simp; omega)]

end Go.Gs
/- Arguments of any shape, laid open: integers, bools, slices, structs, arrays, one within the other. -/
namespace Go.Gs
open Go.ChangeShapes Go.WideShapes Go.Deep Go.Joins Go.RowKit

/-- The shape of a type. 'st': a struct, 'ar': an array; the parts stand one behind the other ('cons', 'nil'). -/
inductive Sh
  | int (k : IntKind)
  | bool
  | sl (e : Sh)
  | st (fs : Sh)
  | ar (es : Sh)
  | nil
  | cons (f r : Sh)

/-- What a value of the shape is. -/
def Sh.T : Sh → Type
  | .int _ => Int
  | .bool => Bool
  | .sl e => List e.T
  | .st fs => fs.T
  | .ar es => es.T
  | .nil => Unit
  | .cons f r => f.T × r.T
def Sh.dflt : (s : Sh) → s.T
  | .int _ => (0 : Int)
  | .bool => false
  | .sl _ => []
  | .st fs => fs.dflt
  | .ar es => es.dflt
  | .nil => ()
  | .cons f r => (f.dflt, r.dflt)
/-- How many cells. -/
def Sh.n : Sh → Nat
  | .int _ => 1
  | .bool => 1
  | .sl _ => 1
  | .st fs => fs.n
  | .ar es => es.n
  | .nil => 0
  | .cons f r => f.n + r.n
def Sh.enc : (s : Sh) → s.T → List SV
  | .int k, n => [.val (.int k n)]
  | .bool, b => [.pr (@Eq Bool b true) (instDecidableEqBool b true)]
  | .sl e, xs => [.sl e.enc xs]
  | .st fs, x => fs.enc x
  | .ar es, x => es.enc x
  | .nil, _ => []
  | .cons f r, x => f.enc x.1 ++ r.enc x.2
def Sh.wf : (s : Sh) → s.T → Prop
  | .int k, n => (Lit.int k n).wf = true
  | .bool, _ => True
  | .sl e, xs => ∀ x : e.T, @Membership.mem e.T (List e.T) _ xs x → e.wf x
  | .st fs, x => fs.wf x
  | .ar es, x => es.wf x
  | .nil, _ => True
  | .cons f r, x => f.wf x.1 ∧ r.wf x.2

/-- Which types are of the shape: .1 of a type, .2.1 of the fields of a struct from an offset on, .2.2 of so many elements of an array. -/
def Sh.fit (P : Program) : Sh → (TypeId → Bool) × (List Field → Nat → Bool) × (Nat → TypeId → Bool)
  | .int k => (fun t => match P.underlying t with
    | some (.int k') => kBeq k k' && Nat.beq (P.cellsOf t) 1
    | _ => false, fun _ _ => false, fun _ _ => false)
  | .bool => (fun t => match P.underlying t with
    | some .bool => Nat.beq (P.cellsOf t) 1
    | _ => false, fun _ _ => false, fun _ _ => false)
  | .sl e => (fun t => match P.underlying t with
    | some (.slice u) => (e.fit P).1 u && Nat.beq (P.cellsOf t) 1 && Nat.blt 0 e.n
    | _ => false, fun _ _ => false, fun _ _ => false)
  | .st fs => (fun t => match P.underlying t with
    | some (.struct gs) => (fs.fit P).2.1 gs.toList 0 && Nat.beq (P.cellsOf t) fs.n
    | _ => false, fun _ _ => false, fun _ _ => false)
  | .ar es => (fun t => match P.underlying t with
    | some (.array n u) => (es.fit P).2.2 n u && Nat.beq (P.cellsOf t) es.n
    | _ => false, fun _ _ => false, fun _ _ => false)
  | .nil => (fun _ => false, fun gs _ => match gs with
    | [] => true
    | _ => false, fun n _ => match n with
    | 0 => true
    | _ => false)
  | .cons f r => (fun _ => false, fun gs off => match gs with
    | [] => false
    | g :: gs => Nat.beq g.offset off && (f.fit P).1 g.type && (r.fit P).2.1 gs (off + f.n), fun n u => match n with
    | 0 => false
    | n + 1 => (f.fit P).1 u && (r.fit P).2.2 n u)

theorem Sh.enc_len : ∀ (s : Sh) (x : s.T), (s.enc x).length = s.n
  | .int _, _ => rfl
  | .bool, _ => rfl
  | .sl _, _ => rfl
  | .st fs, x => Sh.enc_len fs x
  | .ar es, x => Sh.enc_len es x
  | .nil, _ => rfl
  | .cons f r, x => by
    show (f.enc x.1 ++ r.enc x.2).length = f.n + r.n
    rw [List.length_append, Sh.enc_len f, Sh.enc_len r]

/-- Cells that are what the symbolic values say, each of them one cell. -/
def Dc (S : Nat → Prop) (w : World) (cs : List SV) (vs : List Value) : Prop :=
  vs.length = cs.length ∧ ∀ (j : Nat) (s : SV) (v : Value), cs[j]? = some s → vs[j]? = some v → D S w s v ∧ v.oneCell' = true
theorem Dc.nil {S : Nat → Prop} {w : World} : Dc S w [] [] := ⟨rfl, fun j s v h => by simp at h⟩
theorem Dc.append {S : Nat → Prop} {w : World} {cs ds : List SV} {vs us : List Value} (h : Dc S w cs vs) (k : Dc S w ds us) : Dc S w (cs ++ ds) (vs ++ us) := by
  refine ⟨by rw [List.length_append, List.length_append, h.1, k.1], fun j s v hs hv => ?_⟩
  by_cases hj : j < cs.length
  · rw [List.getElem?_append_left hj] at hs
    rw [List.getElem?_append_left (by rw [h.1]; exact hj)] at hv
    exact h.2 j s v hs hv
  · rw [List.getElem?_append_right (by omega)] at hs
    rw [List.getElem?_append_right (by rw [h.1]; omega), h.1] at hv
    exact k.2 _ s v hs hv
theorem Dc.one {S : Nat → Prop} {w : World} {s : SV} {v : Value} (h : D S w s v) (ho : v.oneCell' = true) : Dc S w [s] [v] := ⟨rfl, fun j s' v' hs hv => by
  match j with
  | 0 => simp at hs hv; subst hs; subst hv; exact ⟨h, ho⟩
  | j + 1 => simp at hs⟩

section
variable {H : Type} {enc : TypeId × Value → H} {P : Program} {W : World} {held : Bool}

theorem take_split (L : List Value) (off a b : Nat) : (L.drop off).take (a + b) = (L.drop off).take a ++ (L.drop (off + a)).take b := by
  rw [List.take_add, List.drop_drop]

/-- A value that is read, of a shape. -/
theorem open_sh : ∀ s : Sh,
    ((∀ (t : TypeId) (fuel : Nat) (L : List Value) (x : DataW H × List MemPlace), (s.fit P).1 t = true → DataW.trod enc P W 0 (fun _ => true) held fuel t L = some x →
      P.cellsOf t = s.n ∧ L.length = s.n ∧ ∃ y : s.T, s.wf y ∧ ∀ S : Nat → Prop, (∀ b, ¬ S b) → Dc S W (s.enc y) L)) ∧
    (∀ (gs : List Field) (off m : Nat) (L : List Value), (s.fit P).2.1 gs off = true → (∀ g ∈ gs, ∃ x, DataW.trod enc P W 0 (fun _ => true) held m g.type ((L.drop g.offset).take (P.cellsOf g.type)) = some x) →
      ∃ y : s.T, s.wf y ∧ ∀ S : Nat → Prop, (∀ b, ¬ S b) → Dc S W (s.enc y) ((L.drop off).take s.n)) ∧
    (∀ (n i m : Nat) (u : TypeId) (L : List Value), (s.fit P).2.2 n u = true → (∀ j, j < n → ∃ x, DataW.trod enc P W 0 (fun _ => true) held m u ((L.drop ((i + j) * P.cellsOf u)).take (P.cellsOf u)) = some x) →
      ∃ y : s.T, s.wf y ∧ ∀ S : Nat → Prop, (∀ b, ¬ S b) → Dc S W (s.enc y) ((L.drop (i * P.cellsOf u)).take s.n)) := by
  intro s
  induction s with
  | int k =>
    refine ⟨fun t fuel L x hf h => ?_, fun _ _ _ _ hf _ => (by cases hf), fun _ _ _ _ _ hf _ => (by cases hf)⟩
    unfold Sh.fit at hf
    dsimp only at hf
    split at hf
    · rename_i k' hk
      simp only [Bool.and_eq_true] at hf
      obtain ⟨hk', hc⟩ := hf
      have hk' := kBeq_eq hk'
      subst hk'
      obtain ⟨q, rfl, _, hw⟩ := DataW.trod_int hk h
      exact ⟨Nat.eq_of_beq_eq_true hc, rfl, q, hw, fun S _ => .one (.val _) rfl⟩
    · cases hf
  | bool =>
    refine ⟨fun t fuel L x hf h => ?_, fun _ _ _ _ hf _ => (by cases hf), fun _ _ _ _ _ hf _ => (by cases hf)⟩
    unfold Sh.fit at hf
    dsimp only at hf
    split at hf
    · rename_i hk
      obtain ⟨b, rfl, _⟩ := DataW.trod_bool hk h
      refine ⟨Nat.eq_of_beq_eq_true hf, rfl, b, trivial, fun S _ => .one ?_ rfl⟩
      have := D.pr (S := S) (w := W) (b = true) inferInstance
      rwa [show decide (b = true) = b by cases b <;> rfl] at this
    · cases hf
  | sl e ih =>
    refine ⟨fun t fuel L x hf h => ?_, fun _ _ _ _ hf _ => (by cases hf), fun _ _ _ _ _ hf _ => (by cases hf)⟩
    unfold Sh.fit at hf
    dsimp only at hf
    split at hf
    · rename_i u hk
      simp only [Bool.and_eq_true] at hf
      obtain ⟨⟨he, hc⟩, hpos⟩ := hf
      have hpos : 0 < e.n := by simpa using hpos
      refine ⟨Nat.eq_of_beq_eq_true hc, ?_⟩
      rcases open_slice hk h with ⟨rfl, _⟩ | ⟨a, len, cap, m, n, Df, Pl, rfl, _, hl, hm, hmm, _, hi⟩
      · exact ⟨rfl, ([] : List e.T), fun x hx => (by cases hx), fun S _ => .one (.nil _ _) rfl⟩
      have hmc : m = cap := by simpa using hmm
      subst hmc
      refine ⟨rfl, ?_⟩
      have key : ∀ i, i < m → ∃ cs', P.cellsOf u = e.n ∧ W.cells? 0 (a.add (i * e.n)) e.n = some cs' ∧ ∃ y : e.T, e.wf y ∧ ∀ S : Nat → Prop, (∀ b, ¬ S b) → Dc S W (e.enc y) cs' := fun i hi' => by
        obtain ⟨cs', h1, h2⟩ := hi i hi'
        obtain ⟨g1, g2, g3⟩ := ih.1 u n cs' _ he h2
        rw [g1] at h1
        exact ⟨cs', g1, h1, g3⟩
      by_cases h0 : m = 0
      · subst h0
        have : len = 0 := by omega
        subst this
        exact ⟨([] : List e.T), fun x hx => (by cases hx), fun S _ => .one (.nil _ _) rfl⟩
      have hspot : a.spot = none ∧ a.block < W.heap.size := by
        obtain ⟨cs', _, h1, _⟩ := key 0 (by omega)
        obtain ⟨_, _, hat⟩ := World.cells?_some h1
        have h2 := hat 0 hpos
        have hlen : cs'.length = e.n := by obtain ⟨_, hl, _⟩ := World.cells?_some h1; exact hl
        rw [List.getElem?_eq_getElem (by omega), Nat.zero_mul] at h2
        have : (a.add 0).add 0 = a := by unfold Addr.add; simp
        rw [this] at h2
        unfold World.cell? at h2
        split at h2
        · rename_i hb
          split at h2
          · cases h2
          · rename_i hs
            refine ⟨by simpa using hs, (Array.getElem?_eq_some_iff.1 hb).1⟩
        · cases h2
      obtain ⟨b, o, sp⟩ := a
      obtain ⟨hs, hb⟩ := hspot
      have hs : sp = none := hs
      subst hs
      haveI : Inhabited e.T := ⟨e.dflt⟩
      obtain ⟨F, hF⟩ := choose_lt (α := e.T) (n := m) (p := fun i y => ∃ cs', W.cells? 0 (Addr.add ⟨b, o, none⟩ (i * e.n)) e.n = some cs' ∧ e.wf y ∧ ∀ S : Nat → Prop, (∀ b, ¬ S b) → Dc S W (e.enc y) cs') (fun i hi' => by
        obtain ⟨cs', _, h1, y, hy, hd⟩ := key i hi'
        exact ⟨y, cs', h1, hy, hd⟩)
      refine ⟨(List.range len).map F, fun x hx => ?_, fun S hS => .one ?_ rfl⟩
      · obtain ⟨i, hi', rfl⟩ := List.mem_map.1 hx
        obtain ⟨_, _, hw, _⟩ := hF i (by have := List.mem_range.1 hi'; omega)
        exact hw
      · have at1 : ∀ i j, i < m → j < e.n → ∃ v, W.cell? ⟨b, o + i * e.n + j, none⟩ = some v ∧ v.oneCell' = true ∧ ∀ s, (e.enc (F i))[j]? = some s → D S W s v := fun i j hi' hj => by
          obtain ⟨cs', h1, _, hd⟩ := hF i hi'
          obtain ⟨_, hlen, hat⟩ := World.cells?_some h1
          have h2 := hat j hj
          rw [List.getElem?_eq_getElem (by omega), add_add] at h2
          have e1 : Addr.add ⟨b, o, none⟩ (i * e.n + j) = ⟨b, o + i * e.n + j, none⟩ := by rw [addr_add, ← Nat.add_assoc]
          rw [e1] at h2
          have hd := hd S hS
          have hjl : j < (e.enc (F i)).length := by rw [Sh.enc_len]; exact hj
          have := hd.2 j _ _ (List.getElem?_eq_getElem hjl) (List.getElem?_eq_getElem (show j < cs'.length by omega))
          refine ⟨_, h2, this.2, fun s hs => ?_⟩
          exact (hd.2 j s _ hs (List.getElem?_eq_getElem (show j < cs'.length by omega))).1
        have hsl := D.sl (S := S) (w := W) e.enc ((List.range len).map F) e.n b o m (fun i j => (W.cell? ⟨b, o + i * e.n + j, none⟩).getD undef) hb (hS b) (by simp; unfold maxLen at hm; omega) (by simpa using hl) (fun x _ => Sh.enc_len e x) (fun i j hi' hj => by
          obtain ⟨v, h1, h2, _⟩ := at1 i j (by simp at hi'; omega) hj
          rw [h1]; exact ⟨rfl, h2⟩) (fun i j x s hx hs => by
          have hi' : i < len := by have := (List.getElem?_eq_some_iff.1 hx).1; simpa using this
          simp only [List.getElem?_map, List.getElem?_range hi', Option.map_some, Option.some.injEq] at hx
          subst hx
          have hj : j < e.n := by have := (List.getElem?_eq_some_iff.1 hs).1; rw [Sh.enc_len] at this; exact this
          obtain ⟨v, h1, _, h3⟩ := at1 i j (by omega) hj
          rw [h1]; exact h3 s hs)
        simpa using hsl
    · cases hf
  | st fs ih =>
    refine ⟨fun t fuel L x hf h => ?_, fun _ _ _ _ hf _ => (by cases hf), fun _ _ _ _ _ hf _ => (by cases hf)⟩
    unfold Sh.fit at hf
    dsimp only at hf
    split at hf
    · rename_i gs hk
      simp only [Bool.and_eq_true] at hf
      obtain ⟨hg, hc⟩ := hf
      have hc := Nat.eq_of_beq_eq_true hc
      obtain ⟨xs, m, _, _, hl, hxl, hfl⟩ := DataW.trod_struct hk h
      obtain ⟨y, hy, hd⟩ := ih.2.1 gs.toList 0 m L hg (fun g hg' => by
        obtain ⟨i, hi, rfl⟩ := List.getElem_of_mem hg'
        have hi' : i < gs.size := by simpa using hi
        have := hfl i gs[i] (by simp [hi'])
        exact ⟨xs[i]'(by omega), by simpa [List.getElem?_eq_getElem (show i < xs.length by omega)] using this⟩)
      refine ⟨hc, hl.trans hc, y, hy, fun S hS => ?_⟩
      have := hd S hS
      rw [List.drop_zero, List.take_of_length_le (by show L.length ≤ fs.n; omega)] at this
      exact this
    · cases hf
  | ar es ih =>
    refine ⟨fun t fuel L x hf h => ?_, fun _ _ _ _ hf _ => (by cases hf), fun _ _ _ _ _ hf _ => (by cases hf)⟩
    unfold Sh.fit at hf
    dsimp only at hf
    split at hf
    · rename_i n u hk
      simp only [Bool.and_eq_true] at hf
      obtain ⟨hg, hc⟩ := hf
      have hc := Nat.eq_of_beq_eq_true hc
      obtain ⟨xs, m, _, _, hl, hxl, hfl⟩ := DataW.trod_array hk h
      obtain ⟨y, hy, hd⟩ := ih.2.2 n 0 m u L hg (fun j hj => by
        have := hfl j hj
        exact ⟨xs[j]'(by omega), by rw [Nat.zero_add, this, List.getElem?_eq_getElem (show j < xs.length by omega)]⟩)
      refine ⟨hc, hl.trans hc, y, hy, fun S hS => ?_⟩
      have := hd S hS
      rw [Nat.zero_mul, List.drop_zero, List.take_of_length_le (by show L.length ≤ es.n; omega)] at this
      exact this
    · cases hf
  | nil =>
    refine ⟨fun t fuel L x hf h => (by cases hf), fun gs off m L hf _ => ⟨(), trivial, fun S _ => ?_⟩, fun n i m u L hf _ => ⟨(), trivial, fun S _ => ?_⟩⟩
    · show Dc S W [] ((L.drop off).take 0)
      rw [List.take_zero]; exact .nil
    · show Dc S W [] ((L.drop _).take 0)
      rw [List.take_zero]; exact .nil
  | cons f r ihf ihr =>
    refine ⟨fun t fuel L x hf h => (by cases hf), fun gs off m L hf hx => ?_, fun n i m u L hf hx => ?_⟩
    · unfold Sh.fit at hf
      dsimp only at hf
      split at hf
      · cases hf
      · rename_i g gs
        simp only [Bool.and_eq_true] at hf
        obtain ⟨⟨ho, h1⟩, h2⟩ := hf
        have ho := Nat.eq_of_beq_eq_true ho
        subst ho
        obtain ⟨x, hx0⟩ := hx g (List.mem_cons_self ..)
        obtain ⟨g1, g2, y, hy, hd⟩ := ihf.1 g.type m _ x h1 hx0
        obtain ⟨z, hz, he⟩ := ihr.2.1 gs (g.offset + f.n) m L h2 (fun g' hg' => hx g' (List.mem_cons_of_mem _ hg'))
        refine ⟨(y, z), ⟨hy, hz⟩, fun S hS => ?_⟩
        show Dc S W (f.enc y ++ r.enc z) ((L.drop g.offset).take (f.n + r.n))
        rw [take_split]
        have := hd S hS
        rw [g1] at this
        exact this.append (he S hS)
    · unfold Sh.fit at hf
      dsimp only at hf
      split at hf
      · cases hf
      · rename_i n
        simp only [Bool.and_eq_true] at hf
        obtain ⟨h1, h2⟩ := hf
        obtain ⟨x, hx0⟩ := hx 0 (by omega)
        obtain ⟨g1, g2, y, hy, hd⟩ := ihf.1 u m _ x h1 hx0
        obtain ⟨z, hz, he⟩ := ihr.2.2 n (i + 1) m u L h2 (fun j hj => by
          have := hx (j + 1) (by omega)
          rwa [show i + (j + 1) = i + 1 + j by omega] at this)
        refine ⟨(y, z), ⟨hy, hz⟩, fun S hS => ?_⟩
        show Dc S W (f.enc y ++ r.enc z) ((L.drop (i * P.cellsOf u)).take (f.n + r.n))
        rw [take_split]
        have := hd S hS
        rw [Nat.add_zero, g1] at this
        have he := he S hS
        rw [g1, Nat.add_mul, Nat.one_mul] at he
        rw [g1]
        exact this.append he

theorem Dc.gs {S : Nat → Prop} {w : World} {cs : List SV} {vs : List Value} (h : Dc S w cs vs) {Pm : Nat → Prop} {ρ : Names} : Gs S Pm ρ w cs vs :=
  ⟨h.1, fun j s v hs hv => .d _ _ (h.2 j s v hs hv).1⟩

/-- An argument that is a struct or an array. -/
theorem open_arg {b0 : Nat} {t : TypeId} {v : Value} {d : DataW H} {p : List MemPlace} (s : Sh) (hf : (s.fit P).1 t = true) (ha : (match P.underlying t with | some (.struct _) => true | some (.array _ _) => true | _ => false) = true)
    (hv : Value.okWide P W .any b0 t v) (h : DataW.Trod enc P W 0 (fun _ => true) held t v d p) :
    ∃ y : s.T, s.wf y ∧ ∀ (S Pm : Nat → Prop) (ρ : Names), (∀ b, ¬ S b) → G S Pm ρ W (.agg (s.enc y)) v := by
  obtain ⟨fuel, hx⟩ := h
  obtain ⟨_, _, y, hy, hd⟩ := (open_sh s).1 t fuel _ _ hf hx
  have : ∃ cs, v = .agg cs := by
    unfold Value.okWide at hv
    split at ha
    · rename_i h1; rw [h1] at hv; obtain ⟨cs, rfl, _⟩ := hv; exact ⟨cs, rfl⟩
    · rename_i h1; rw [h1] at hv; obtain ⟨cs, rfl, _⟩ := hv; exact ⟨cs, rfl⟩
    · cases ha
  obtain ⟨cs, rfl⟩ := this
  refine ⟨y, hy, fun S Pm ρ hS => ?_⟩
  have g := (hd S hS).gs (Pm := Pm) (ρ := ρ)
  have := G.agg (S := S) (Pm := Pm) (ρ := ρ) (w := W) _ _ g.1 g.2
  rwa [show (Value.agg cs).cells.toList.toArray = cs from Array.toArray_toList] at this

/-- An argument that is a slice. -/
theorem open_argS {b0 : Nat} {t : TypeId} {v : Value} {d : DataW H} {p : List MemPlace} (e : Sh) (hf : (Sh.fit P (.sl e)).1 t = true)
    (hv : Value.okWide P W .any b0 t v) (h : DataW.Trod enc P W 0 (fun _ => true) held t v d p) :
    ∃ xs : List e.T, (∀ x ∈ xs, e.wf x) ∧ ∀ (S Pm : Nat → Prop) (ρ : Names), (∀ b, ¬ S b) → G S Pm ρ W (.sl e.enc xs) v := by
  obtain ⟨fuel, hx⟩ := h
  obtain ⟨_, hl, y, hy, hd⟩ := (open_sh (.sl e)).1 t fuel _ _ hf hx
  have hs : ∃ u, P.underlying t = some (.slice u) := by
    unfold Sh.fit at hf
    dsimp only at hf
    split at hf
    · exact ⟨_, ‹_›⟩
    · cases hf
  obtain ⟨u, hu⟩ := hs
  have : v.cells.toList = [v] := by
    unfold Value.okWide at hv
    rw [hu] at hv
    cases v <;> first | rfl | exact hv.elim | (obtain ⟨_, h, _⟩ := hv; cases h) | (simp [Cell.okWide, Cell.ok, hu] at hv)
  rw [this] at hd
  refine ⟨y, hy, fun S Pm ρ hS => ?_⟩
  have := (hd S hS).2 0 _ v rfl rfl
  exact .d _ _ this.1
end

/-- Data seen with less. -/
def LEd (s r : SV) : Prop := ∀ (S : Nat → Prop) (w : World) (v : Value), D S w s v → D S w r v
inductive LEds : List SV → List SV → Prop
  | nil : LEds [] []
  | cons {a b : SV} {us bs : List SV} (h : LEd a b) (t : LEds us bs) : LEds (a :: us) (b :: bs)
theorem LEd.refl {s : SV} : LEd s s := fun _ _ _ h => h
theorem LEds.refl : ∀ {us : List SV}, LEds us us
  | [] => .nil
  | _ :: _ => .cons .refl .refl
theorem LEds.append {us bs cs ds : List SV} (h : LEds us bs) (k : LEds cs ds) : LEds (us ++ cs) (bs ++ ds) := by
  induction h with
  | nil => exact k
  | cons h _ ih => exact .cons h ih
theorem LEds.ix {us bs : List SV} (h : LEds us bs) : us.length = bs.length ∧ ∀ (j : Nat) (s r : SV), us[j]? = some s → bs[j]? = some r → LEd s r := by
  induction h with
  | nil => exact ⟨rfl, fun j s r h => by simp at h⟩
  | cons h t ih =>
    refine ⟨by simp [ih.1], fun j s r hs hr => ?_⟩
    cases j with
    | zero => simp at hs hr; subst hs; subst hr; exact h
    | succ j => exact ih.2 j s r (by simpa using hs) (by simpa using hr)
theorem LEd.sl {α β : Type} {e : α → List SV} {g : β → List SV} (f : α → β) {xs : List α} (he : ∀ x ∈ xs, LEds (e x) (g (f x))) : LEd (.sl e xs) (.sl g (xs.map f)) := fun S w v h => by
  cases h with
  | nil _ a => exact .nil g a
  | sl _ _ sz b o cap c hb hS hlen hcap hsz hc h =>
    have := D.sl (S := S) (w := w) g (xs.map f) sz b o cap c hb hS (by simpa using hlen) (by simpa using hcap) (fun y hy => by
      obtain ⟨x, hx, rfl⟩ := List.mem_map.1 hy
      rw [← (he x hx).ix.1]; exact hsz x hx) (fun i j hi hj => hc i j (by simpa using hi) hj) (fun i j y s hy hs => by
      rw [List.getElem?_map] at hy
      cases hx : xs[i]? with
      | none => simp [hx] at hy
      | some x =>
        simp [hx] at hy
        subst hy
        have he := he x (List.mem_of_getElem? hx)
        have hj : j < (e x).length := by rw [he.ix.1]; exact (List.getElem?_eq_some_iff.1 hs).1
        have hs0 := List.getElem?_eq_getElem hj
        exact he.ix.2 j _ s hs0 hs _ _ _ (h i j x _ hx hs0))
    simpa using this
theorem LE_slL {α β : Type} {e : α → List SV} {g : β → List SV} (f : α → β) {xs : List α} (he : ∀ x ∈ xs, LEds (e x) (g (f x))) : LE (.sl e xs) (.sl g (xs.map f)) := fun S Pm ρ w v hg => .d _ _ (LEd.sl f he _ _ _ hg.sl_inv)
theorem LEds.gs {us bs : List SV} (h : LEds us bs) {S Pm : Nat → Prop} {ρ : Names} {w : World} {vs : List Value} (hd : vs.length = us.length ∧ ∀ (j : Nat) (s : SV) (v : Value), us[j]? = some s → vs[j]? = some v → D S w s v) : Gs S Pm ρ w bs vs :=
  ⟨hd.1.trans h.ix.1, fun j r v hr hv => by
    have hj : j < us.length := by rw [h.ix.1]; exact (List.getElem?_eq_some_iff.1 hr).1
    have hs := List.getElem?_eq_getElem hj
    exact .d _ _ (h.ix.2 j _ r hs hr _ _ _ (hd.2 j _ v hs hv))⟩

section
variable {H : Type} {enc : TypeId × Value → H} {P : Program} {W : World} {held : Bool}
/-- An argument that is a struct or an array, seen otherwise. -/
theorem open_argL {b0 : Nat} {t : TypeId} {v : Value} {d : DataW H} {p : List MemPlace} (s : Sh) (hf : (s.fit P).1 t = true) (ha : (match P.underlying t with | some (.struct _) => true | some (.array _ _) => true | _ => false) = true)
    (hv : Value.okWide P W .any b0 t v) (h : DataW.Trod enc P W 0 (fun _ => true) held t v d p) :
    ∃ y : s.T, s.wf y ∧ ∀ (g : List SV), LEds (s.enc y) g → ∀ (S Pm : Nat → Prop) (ρ : Names), (∀ b, ¬ S b) → G S Pm ρ W (.agg g) v := by
  obtain ⟨fuel, hx⟩ := h
  obtain ⟨_, _, y, hy, hd⟩ := (open_sh s).1 t fuel _ _ hf hx
  have : ∃ cs, v = .agg cs := by
    unfold Value.okWide at hv
    split at ha
    · rename_i h1; rw [h1] at hv; obtain ⟨cs, rfl, _⟩ := hv; exact ⟨cs, rfl⟩
    · rename_i h1; rw [h1] at hv; obtain ⟨cs, rfl, _⟩ := hv; exact ⟨cs, rfl⟩
    · cases ha
  obtain ⟨cs, rfl⟩ := this
  refine ⟨y, hy, fun g hg S Pm ρ hS => ?_⟩
  have hd1 := hd S hS
  have g1 := hg.gs (Pm := Pm) (ρ := ρ) ⟨hd1.1, fun j s v hs hv => (hd1.2 j s v hs hv).1⟩
  have := G.agg (S := S) (Pm := Pm) (ρ := ρ) (w := W) _ _ g1.1 g1.2
  rwa [show (Value.agg cs).cells.toList.toArray = cs from Array.toArray_toList] at this

end

end Go.Gs
/- Great numbers and transforms among the arguments, laid open. -/
namespace Go.Gs
open Go.Proofs Go.RowKit

theorem laidOut : laidOutB Tryz.prog = true := by kernel_rfl
theorem wfi {n : Int} (h : (Lit.int .i64 n).wf = true) : R64 n := r64 h
theorem wf8 {n : Int} (h : (Lit.int .u8 n).wf = true) : R8 n := r8 h
theorem wfs8 {n : Int} (h : (Lit.int .i8 n).wf = true) : -128 ≤ n ∧ n ≤ 127 := by
  simp only [Lit.wf, Bool.and_eq_true, decide_eq_true_eq] at h
  exact h
theorem wf32 {n : Int} (h : (Lit.int .u32 n).wf = true) : 0 ≤ n ∧ n ≤ 4294967295 := by
  simp only [Lit.wf, Bool.and_eq_true, decide_eq_true_eq] at h
  exact h

def shI : Sh := .int .i64
def shB : Sh := .int .u8
def shInt : Sh := .st (.cons .bool (.cons (.sl (.int .u32)) .nil))
def shRat : Sh := .st (.cons shInt (.cons shInt .nil))
def shAf : Sh := .st (.cons shRat (.cons shRat (.cons shRat (.cons shRat (.cons shRat (.cons shRat .nil))))))
def toDig (n : Int) : Dig := dof n.toNat
def toBI (y : shInt.T) : BI := ⟨y.1, List.map toDig y.2.1⟩
def toBR (y : shRat.T) : BR := ⟨toBI y.1, toBI y.2.1⟩
def toAF (y : shAf.T) : AF := ⟨toBR y.1, toBR y.2.1, toBR y.2.2.1, toBR y.2.2.2.1, toBR y.2.2.2.2.1, toBR y.2.2.2.2.2.1⟩
theorem bi_le (y : shInt.T) (h : shInt.wf y) : LEds (shInt.enc y) (biE (toBI y)) := by
  refine .cons .refl (.cons ?_ .nil)
  refine LEd.sl toDig fun n hn => ?_
  have h1 := wf32 (h.2.1 n hn)
  have e : ((toDig n).val : Int) = n := by
    unfold toDig
    rw [dof_val]; omega
  show LEds [.val (.int .u32 n)] [.val (.int .u32 ((toDig n).val : Int))]
  rw [e]
  exact .refl
theorem br_le (y : shRat.T) (h : shRat.wf y) : LEds (shRat.enc y) (brE (toBR y)) := LEds.append (bi_le y.1 h.1) (LEds.append (bi_le y.2.1 h.2.1) .nil)
theorem af_le (y : shAf.T) (h : shAf.wf y) : LEds (shAf.enc y) (afE (toAF y)) :=
  LEds.append (br_le _ h.1) (LEds.append (br_le _ h.2.1) (LEds.append (br_le _ h.2.2.1) (LEds.append (br_le _ h.2.2.2.1) (LEds.append (br_le _ h.2.2.2.2.1) (by
    have := LEds.append (br_le _ h.2.2.2.2.2.1) .nil
    rwa [List.append_nil, List.append_nil] at this)))))

section
variable {H : Type} {enc : TypeId × Value → H} {W : World} {b0 : Nat} {held : Bool}
set_option maxRecDepth 100000 in
theorem open_affine {v : Value} {d : DataW H} {p : List MemPlace} (hv : Value.okWide Tryz.prog W .any b0 36 v) (h : DataW.Trod enc Tryz.prog W 0 (fun _ => true) held 36 v d p) :
    ∃ t : AF, ∀ (S Pm : Nat → Prop) (ρ : Names), (∀ b, ¬ S b) → G S Pm ρ W (.agg (afE t)) v := by
  obtain ⟨y, hy, g⟩ := open_argL shAf (by kernel_rfl) (by kernel_rfl) hv h
  exact ⟨toAF y, g _ (af_le y hy)⟩
end

end Go.Gs
