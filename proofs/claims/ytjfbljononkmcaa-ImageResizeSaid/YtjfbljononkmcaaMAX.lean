/- A callee that reads nested blocks za data, and zdI a number or a truth. -/
import Derived.Test.YtjfbljononkmcaaMA
import Derived.Test.YtjfbljononkmcaaMAV
import Derived.Test.YtjfbljononkmcaaMAW
set_option maxRecDepth 100000
set_option maxHeartbeats 8000000
set_option linter.all false
namespace Go.Gs
open Go.Proofs
theorem zf.peek {P:Program} {f:FuncId} {args args':List SV} {r:SV} {M M2:List (Nat×Mem)} {nk:Nat} (h:zf P f args' [] r []) (hr:uj r=true)
  (hsub:Sub ⟨k7 0 args,M,M.length,args.length,M.length⟩ ⟨k7 0 args,M2,nk,args.length,M.length⟩) (ha:vF (zm M2) args=args'):zf P f args M r M:=by
 subst ha;refine ⟨h.1,fun Keep ρ w vs hk hm hρ hg=>?_⟩;have hrel:=zbc (nt:=args.length) hm hρ hg (Nat.le_refl _);obtain ⟨ρ2,h2⟩:=hsub _ _ _ _ hrel
 have hg2:Gs (fun b=>Keep b∨Own M2 ρ2 b) (Own M2 ρ2) ρ2 w args vs:=⟨hg.1,fun j s v hs hv=>by
  have h3:=(h2.regs j s (by show ka (k7 0 args) j=some s;rw [yA];simpa using hs)).2
  have e:(vs.toArray++Array.replicate (args.length - vs.toArray.size) undef).getD j undef=v:=by
   have hl:=hg.1;have hj:=(List.getElem?_eq_some_iff.1 hv).1
   have e1:(vs.toArray++Array.replicate (args.length - vs.toArray.size) undef)[j]? =some v:=by
    rw [Array.getElem?_append_left (by simpa using hj)];simpa using hv
   rw [Array.getD_eq_getD_getElem?,e1];rfl
  rw [← e]
  exact h3⟩
 have hv:=ur (S':=fun b=>Keep b∨Own [] (fun _=>none) b) (Pm':=Own [] fun _=>none) (ρ':=fun _=>none) (fun k m h=>zj h) h2.mem (fun b hb=>hb.elim .inl fun h=>absurd h zr) (fun b _=>zr) (fun _ _ b _ _=>zr) hg2
  (.inr fun b hb k=>k.elim (h2.mem.old b hb).2 zr)
 refine (h.2 Keep (fun _=>none) w vs hk (kT hk fun _ _ q=>hm.glc q) (fun _ _=>rfl) hv).mono fun e w' ⟨v,ρ',he,hs,hm',hgr⟩=>?_
 have hb:∀b,b < w.heap.size->w'.heap[b]? =w.heap[b]? :=fun b hb=>hs.block b hb zr
 have hs2:Stp (Own M ρ) (Own M ρ) ρ ρ w w':=⟨hs.os,hs.tape,hs.output,hs.size,fun b q _=>hb b q,fun b q=>.inl q,fun _ _ q=>q⟩;exact ⟨v,ρ,he,hs2,⟨fun k m hkm=>(hm.rel k m hkm).keep hs2 rfl (fun v b hv hbl=>hb b (hm.old b ⟨k,m,v,hkm,hv,hbl⟩).1),hm.keys,hm.apart,fun b q=>⟨Nat.lt_of_lt_of_le (hm.old b q).1 hs.size,(hm.old b q).2⟩,fun b q=>Nat.lt_of_lt_of_le (hm.kp b q) hs.size,hm.glS hs2⟩,za3 hr hgr⟩
theorem zo {σ:St} (k k0:Nat) {T T0:TypeId} {A B:List (List SV)} {p q:SV} {ys:List Pix} (hk:zm σ.M k=some (.arr T zb 4 ys)) (h0:zm σ.M k0=some (.garr T0 3 (A++[p,q,.own k]::B)))
  (hA:∀x∈A,x.length=3) (hB:∀x∈B,x.length=3):Sub σ ⟨σ.L,zN (zy σ.M k) k0 (.garr T0 3 (A++[p,q,.sl zb ys]::B)),σ.nk,σ.nt,σ.n0⟩:=by
 refine zd0 k k0 hk h0 (xs':=A++[p,q,.sl zb ys]::B) (by simp) (fun x hx=>?_) (fun i j x' s' hx hs=>?_)
 ·rcases List.mem_append.1 hx with hx | hx
  ·exact hA x hx
  ·rcases List.mem_cons.1 hx with rfl | hx
   ·rfl
   ·exact hB x hx
 ·rw [List.getElem?_append] at hx
  by_cases c:i < A.length
  ·rw [if_pos c] at hx;exact ⟨x',s',by rw [List.getElem?_append,if_pos c];exact hx,hs,.inl rfl⟩
  ·rw [if_neg c] at hx
   cases hj:i - A.length with
   | zero=>
    rw [hj] at hx
    cases hx
    refine ⟨[p,q,.own k],?_⟩
    match j,hs with
    | 0,hs=>cases hs;exact ⟨_,by rw [List.getElem?_append,if_neg c,hj];rfl,rfl,.inl rfl⟩
    | 1,hs=>cases hs;exact ⟨_,by rw [List.getElem?_append,if_neg c,hj];rfl,rfl,.inl rfl⟩
    | 2,hs=>cases hs;exact ⟨.own k,by rw [List.getElem?_append,if_neg c,hj];rfl,rfl,.inr ⟨rfl,rfl⟩⟩
    | j+3,hs=>cases hs
   | succ n=>
    rw [hj] at hx;have hx:B[n]? =some x':=hx;exact ⟨x',s',by rw [List.getElem?_append,if_neg c,hj];exact hx,hs,.inl rfl⟩
theorem zK{l:List (List SV)}(h:(l.all fun x=>Nat.beq x.length 3)=true):∀x∈l,x.length=3:=fun x hx=>Nat.eq_of_beq_eq_true (List.all_eq_true.1 h x hx)
theorem zel(m:Img)(want:List Img):zf Try.prog 30 [.own 0,.sl ze want] (zJ m 1) (pr (zP m 1=want)) (zJ m 1):=
 (qv (zP m 1) want).peek rfl ((zo 1 0 (A:=[]) (B:=[]) rfl rfl (zK rfl) (zK rfl)).trans ((qu 0 ze (zP m 1) rfl fun _ _=>rfl))) rfl
theorem zem(m:Img)(want:List Img):zf Try.prog 30 [.own 0,.sl ze want] (zJ m 2) (pr (zP m 2=want)) (zJ m 2):=
 (qv (zP m 2) want).peek rfl ((zo 1 0 (A:=[]) (B:=[rwI m 1]) rfl rfl (zK rfl) (zK rfl)).trans ((zo 2 0 (A:=[ze (itI m 0)]) (B:=[]) rfl rfl (zK rfl) (zK rfl)).trans ((qu 0 ze (zP m 2) rfl fun _ _=>rfl)))) rfl
theorem zen(m:Img)(want:List Img):zf Try.prog 30 [.own 0,.sl ze want] (zJ m 3) (pr (zP m 3=want)) (zJ m 3):=
 (qv (zP m 3) want).peek rfl ((zo 1 0 (A:=[]) (B:=[rwI m 1,rwI m 2]) rfl rfl (zK rfl) (zK rfl)).trans ((zo 2 0 (A:=[ze (itI m 0)]) (B:=[rwI m 2]) rfl rfl (zK rfl) (zK rfl)).trans ((zo 3 0 (A:=[ze (itI m 0),ze (itI m 1)]) (B:=[]) rfl rfl (zK rfl) (zK rfl)).trans ((qu 0 ze (zP m 3) rfl fun _ _=>rfl))))) rfl
theorem zeo(m:Img)(want:List Img):zf Try.prog 30 [.own 0,.sl ze want] (zJ m 4) (pr (zP m 4=want)) (zJ m 4):=
 (qv (zP m 4) want).peek rfl ((zo 1 0 (A:=[]) (B:=[rwI m 1,rwI m 2,rwI m 3]) rfl rfl (zK rfl) (zK rfl)).trans ((zo 2 0 (A:=[ze (itI m 0)]) (B:=[rwI m 2,rwI m 3]) rfl rfl (zK rfl) (zK rfl)).trans ((zo 3 0 (A:=[ze (itI m 0),ze (itI m 1)]) (B:=[rwI m 3]) rfl rfl (zK rfl) (zK rfl)).trans ((zo 4 0 (A:=[ze (itI m 0),ze (itI m 1),ze (itI m 2)]) (B:=[]) rfl rfl (zK rfl) (zK rfl)).trans ((qu 0 ze (zP m 4) rfl fun _ _=>rfl)))))) rfl
theorem zep(m:Img)(want:List Img):zf Try.prog 30 [.own 0,.sl ze want] (zJ m 5) (pr (zP m 5=want)) (zJ m 5):=
 (qv (zP m 5) want).peek rfl ((zo 1 0 (A:=[]) (B:=[rwI m 1,rwI m 2,rwI m 3,rwI m 4]) rfl rfl (zK rfl) (zK rfl)).trans ((zo 2 0 (A:=[ze (itI m 0)]) (B:=[rwI m 2,rwI m 3,rwI m 4]) rfl rfl (zK rfl) (zK rfl)).trans ((zo 3 0 (A:=[ze (itI m 0),ze (itI m 1)]) (B:=[rwI m 3,rwI m 4]) rfl rfl (zK rfl) (zK rfl)).trans ((zo 4 0 (A:=[ze (itI m 0),ze (itI m 1),ze (itI m 2)]) (B:=[rwI m 4]) rfl rfl (zK rfl) (zK rfl)).trans ((zo 5 0 (A:=[ze (itI m 0),ze (itI m 1),ze (itI m 2),ze (itI m 3)]) (B:=[]) rfl rfl (zK rfl) (zK rfl)).trans ((qu 0 ze (zP m 5) rfl fun _ _=>rfl))))))) rfl
theorem zeq(m:Img)(want:List Img):zf Try.prog 30 [.own 0,.sl ze want] (zJ m 6) (pr (zP m 6=want)) (zJ m 6):=
 (qv (zP m 6) want).peek rfl ((zo 1 0 (A:=[]) (B:=[rwI m 1,rwI m 2,rwI m 3,rwI m 4,rwI m 5]) rfl rfl (zK rfl) (zK rfl)).trans ((zo 2 0 (A:=[ze (itI m 0)]) (B:=[rwI m 2,rwI m 3,rwI m 4,rwI m 5]) rfl rfl (zK rfl) (zK rfl)).trans ((zo 3 0 (A:=[ze (itI m 0),ze (itI m 1)]) (B:=[rwI m 3,rwI m 4,rwI m 5]) rfl rfl (zK rfl) (zK rfl)).trans ((zo 4 0 (A:=[ze (itI m 0),ze (itI m 1),ze (itI m 2)]) (B:=[rwI m 4,rwI m 5]) rfl rfl (zK rfl) (zK rfl)).trans ((zo 5 0 (A:=[ze (itI m 0),ze (itI m 1),ze (itI m 2),ze (itI m 3)]) (B:=[rwI m 5]) rfl rfl (zK rfl) (zK rfl)).trans ((zo 6 0 (A:=[ze (itI m 0),ze (itI m 1),ze (itI m 2),ze (itI m 3),ze (itI m 4)]) (B:=[]) rfl rfl (zK rfl) (zK rfl)).trans ((qu 0 ze (zP m 6) rfl fun _ _=>rfl)))))))) rfl
theorem zer(m:Img)(want:List Img):zf Try.prog 30 [.own 0,.sl ze want] (zJ m 7) (pr (zP m 7=want)) (zJ m 7):=
 (qv (zP m 7) want).peek rfl ((zo 1 0 (A:=[]) (B:=[rwI m 1,rwI m 2,rwI m 3,rwI m 4,rwI m 5,rwI m 6]) rfl rfl (zK rfl) (zK rfl)).trans ((zo 2 0 (A:=[ze (itI m 0)]) (B:=[rwI m 2,rwI m 3,rwI m 4,rwI m 5,rwI m 6]) rfl rfl (zK rfl) (zK rfl)).trans ((zo 3 0 (A:=[ze (itI m 0),ze (itI m 1)]) (B:=[rwI m 3,rwI m 4,rwI m 5,rwI m 6]) rfl rfl (zK rfl) (zK rfl)).trans ((zo 4 0 (A:=[ze (itI m 0),ze (itI m 1),ze (itI m 2)]) (B:=[rwI m 4,rwI m 5,rwI m 6]) rfl rfl (zK rfl) (zK rfl)).trans ((zo 5 0 (A:=[ze (itI m 0),ze (itI m 1),ze (itI m 2),ze (itI m 3)]) (B:=[rwI m 5,rwI m 6]) rfl rfl (zK rfl) (zK rfl)).trans ((zo 6 0 (A:=[ze (itI m 0),ze (itI m 1),ze (itI m 2),ze (itI m 3),ze (itI m 4)]) (B:=[rwI m 6]) rfl rfl (zK rfl) (zK rfl)).trans ((zo 7 0 (A:=[ze (itI m 0),ze (itI m 1),ze (itI m 2),ze (itI m 3),ze (itI m 4),ze (itI m 5)]) (B:=[]) rfl rfl (zK rfl) (zK rfl)).trans ((qu 0 ze (zP m 7) rfl fun _ _=>rfl))))))))) rfl
theorem zes(m:Img)(want:List Img):zf Try.prog 30 [.own 0,.sl ze want] (zJ m 8) (pr (zP m 8=want)) (zJ m 8):=
 (qv (zP m 8) want).peek rfl ((zo 1 0 (A:=[]) (B:=[rwI m 1,rwI m 2,rwI m 3,rwI m 4,rwI m 5,rwI m 6,rwI m 7]) rfl rfl (zK rfl) (zK rfl)).trans ((zo 2 0 (A:=[ze (itI m 0)]) (B:=[rwI m 2,rwI m 3,rwI m 4,rwI m 5,rwI m 6,rwI m 7]) rfl rfl (zK rfl) (zK rfl)).trans ((zo 3 0 (A:=[ze (itI m 0),ze (itI m 1)]) (B:=[rwI m 3,rwI m 4,rwI m 5,rwI m 6,rwI m 7]) rfl rfl (zK rfl) (zK rfl)).trans ((zo 4 0 (A:=[ze (itI m 0),ze (itI m 1),ze (itI m 2)]) (B:=[rwI m 4,rwI m 5,rwI m 6,rwI m 7]) rfl rfl (zK rfl) (zK rfl)).trans ((zo 5 0 (A:=[ze (itI m 0),ze (itI m 1),ze (itI m 2),ze (itI m 3)]) (B:=[rwI m 5,rwI m 6,rwI m 7]) rfl rfl (zK rfl) (zK rfl)).trans ((zo 6 0 (A:=[ze (itI m 0),ze (itI m 1),ze (itI m 2),ze (itI m 3),ze (itI m 4)]) (B:=[rwI m 6,rwI m 7]) rfl rfl (zK rfl) (zK rfl)).trans ((zo 7 0 (A:=[ze (itI m 0),ze (itI m 1),ze (itI m 2),ze (itI m 3),ze (itI m 4),ze (itI m 5)]) (B:=[rwI m 7]) rfl rfl (zK rfl) (zK rfl)).trans ((zo 8 0 (A:=[ze (itI m 0),ze (itI m 1),ze (itI m 2),ze (itI m 3),ze (itI m 4),ze (itI m 5),ze (itI m 6)]) (B:=[]) rfl rfl (zK rfl) (zK rfl)).trans ((qu 0 ze (zP m 8) rfl fun _ _=>rfl)))))))))) rfl
end Go.Gs
