/- Slices cut, made, built; lengths; least and greatest; append. -/
import Derived.Test.YtjfbljononkmcaaMA
import Derived.Test.YtjfbljononkmcaaMAF
set_option maxRecDepth 100000
set_option maxHeartbeats 8000000
set_option linter.all false
namespace Go.Gs
theorem zx{o:Option Operand}{l:List SV}{d:Int}{K:Int->List SV->Prop}(h:z8 o l d K):
  ∃n r,K n r/\∀{S Pm:Nat->Prop} {ρ:zd} {w:World} (ev:Operand->Value) (rest:List Value),Gs S Pm ρ w l ((k7 o).map ev++rest)->
   Gs S Pm ρ w r rest/\((o=none/\n=d)∨∃x k,o=some x/\ev x=.int k n):=by
 unfold z8 at h
 split at h
 ·exact ⟨_,_,h,fun ev rest hg=>⟨by simpa [k7] using hg,.inl ⟨rfl,rfl⟩⟩⟩
 ·rename_i x
  split at h
  ·rename_i k n r;refine ⟨_,_,h,fun ev rest hg=>?_⟩;have hg:Gs _ _ _ _ _ (ev x::rest):=hg;exact ⟨hg.tail,.inr ⟨x,k,rfl,hg.head.val_inv⟩⟩
  ·exact h.elim
theorem kR {P:Program} {w:World} {len cap:Nat} {lo hi mx:Option Operand} {ev:Operand->Value} {l h m:Int} (hok:zfP hi mx=true)
  (hlo:(lo=none/\l=0)∨∃x k,lo=some x/\ev x=.int k l) (hhi:(hi=none/\h=len)∨∃x k,hi=some x/\ev x=.int k h)
  (hmx:(mx=none/\m=len)∨∃x k,mx=some x/\ev x=.int k m) (h0:0<=l) (h1:l<=h) (h2:h<=m) (h3:m<=len) (h4:len<=cap):
  ∃q:Nat,(Instr.sliceBounds true len cap (lo.map ev) (hi.map ev) (mx.map ev)).run P w=.ok (l.toNat,h.toNat,q) w/\h.toNat<=q/\q<=cap/\(jq mx=true->q=cap)/\(jq mx=false->q=m.toNat):=by
 have e1:(h.toNat:Int)=h:=Int.toNat_of_nonneg oM;have e2:(m.toNat:Int)=m:=Int.toNat_of_nonneg oM
 rcases hmx with ⟨rfl,rfl⟩ | ⟨xm,km,rfl,em⟩
 ·rcases hhi with ⟨rfl,rfl⟩ | ⟨xh,kh,rfl,eh⟩
  ·rcases hlo with ⟨rfl,rfl⟩ | ⟨xl,kl,rfl,el⟩
   ·exact ⟨cap,by simp [Instr.sliceBounds],by simp;omega,Nat.le_refl _,fun _=>rfl,fun h=>by cases h⟩
   ·refine ⟨cap,?_,by simp;omega,Nat.le_refl _,fun _=>rfl,fun h=>by cases h⟩;simp [Instr.sliceBounds,el,run_sliceBound w kl l len _ h0 oM]
  ·rcases hlo with ⟨rfl,rfl⟩ | ⟨xl,kl,rfl,el⟩
   ·refine ⟨cap,?_,oM,Nat.le_refl _,fun _=>rfl,fun h=>by cases h⟩;simp [Instr.sliceBounds,eh,run_sliceBound w kh h cap _ oM oM]
   ·refine ⟨cap,?_,oM,Nat.le_refl _,fun _=>rfl,fun h=>by cases h⟩;simp [Instr.sliceBounds,el,eh,run_sliceBound w kh h cap _ oM oM,run_sliceBound w kl l h.toNat _ h0 oM]
 ·rcases hhi with ⟨rfl,rfl⟩ | ⟨xh,kh,rfl,eh⟩
  ·simp [zfP] at hok
  ·rcases hlo with ⟨rfl,rfl⟩ | ⟨xl,kl,rfl,el⟩
   ·refine ⟨m.toNat,?_,oM,oM,fun h=>(by cases h),fun _=>rfl⟩;simp [Instr.sliceBounds,eh,em,run_sliceBound w km m cap _ oM oM,run_sliceBound w kh h m.toNat _ oM oM]
   ·refine ⟨m.toNat,?_,oM,oM,fun h=>(by cases h),fun _=>rfl⟩;simp [Instr.sliceBounds,el,eh,em,run_sliceBound w km m cap _ oM oM,run_sliceBound w kh h m.toNat _ oM oM,run_sliceBound w kl l h.toNat _ h0 oM]
theorem zhL {S:Nat->Prop} {w:World} {α:Type} {enc:α->List SV} {xs:List α} {a:Option Addr} {len cap:Nat} (hd:D S w (.sl enc xs) (.slice a len cap)) {sz:Nat} (hsz:∀x∈xs,(enc x).length=sz)
  {l h:Nat} (hlh:l<=h) (hh:h<=xs.length) {q:Nat} (hq:h<=q) (hqc:q<=cap):
  D S w (.sl enc ((xs.drop l).take (h - l))) (sliced a l h q sz):=by
 have hlen:((xs.drop l).take (h - l)).length=h - l:=by simp;omega
 have hmem:∀x∈(xs.drop l).take (h - l),x∈xs:=fun x hx=>List.mem_of_mem_drop (List.mem_of_mem_take hx)
 rcases hd.sl_inv with ⟨rfl,a,hv⟩ | ⟨sz',b,o,cap',c,hv,hb,hS,hl48,hcap,hesz,hc,he⟩
 ·cases hv
  have:h=0:=by simpa using hh
  subst this;have:l=0:=oM;subst this;have:q=0:=oM;subst this;exact .nil enc _
 ·cases hv
  have hix:∀i x,((xs.drop l).take (h - l))[i]? =some x->xs[l+i]? =some x/\i < h - l:=by
   intro i x hx;rw [List.getElem?_take] at hx
   split at hx
   ·exact ⟨by simpa using hx,by assumption⟩
   ·cases hx
  have hs:0 < h - l->sz'=sz:=fun hp=>by
   have h1:=List.getElem?_eq_getElem (show l < xs.length by omega);have h2:=List.mem_of_getElem? h1;rw [← hesz _ h2,← hsz _ h2]
  unfold sliced
  by_cases hql:q=l
  ·rw [if_pos hql];have h0:h - l=0:=oM
   have:=D.sl (S:=S) (w:=w) enc ((xs.drop l).take (h - l)) sz' b o (q - l) c hb hS oM oM (fun x hx=>hesz x (hmem x hx)) (fun i j hi=>by omega) (fun i j x s hx=>by
    have:=(hix i x hx).2;omega)
   rwa [hlen] at this
  ·rw [if_neg hql];simp only [Option.map_some,kA]
   have:=D.sl (S:=S) (w:=w) enc ((xs.drop l).take (h - l)) sz' b (o+l*sz) (q - l) (fun i j=>c (l+i) j) hb hS oM oM (fun x hx=>hesz x (hmem x hx)) (fun i j hi hj=>by
    have h5:=hc (l+i) j oM hj;rw [Nat.add_mul,hs oM] at h5;rw [hs oM,show o+l*sz+i*sz+j=o+(l*sz+i*sz)+j by omega]
    exact h5) (fun i j x s hx hs'=>he (l+i) j x s (hix i x hx).1 hs')
   rwa [hlen] at this
theorem zal {Keep:Nat->Prop} {M:List (Nat×Mem)} {ρ:zd} {w:World} (hm:zj Keep M ρ w) {k:Nat} {T:TypeId} {α:Type} {enc:α->List SV} {sz:Nat} {xs:List α}
  (hk:(k,Mem.arr T enc sz xs)∈M) {S:Nat->Prop} (hS:∀b,S b->Keep b∨Own M ρ b) (hSk:∀v b,ρ k=some v->zM v=some b->¬S b) {v:Value} (hv:ρ k=some v):D S w (.sl enc xs) v:=by
 obtain ⟨v',cells,hρ,hown,hlen,hone,hesz,hcells⟩:=hm.rel k _ hk;rw [hv] at hρ;cases hρ
 rcases hown.2 with ⟨rfl,h0⟩ | ⟨g,cap,cur,rfl,_,hheap,hnc,hcm,hcs,htake⟩
 ·have:xs=[]:=List.eq_nil_of_length_eq_zero h0;subst this;exact .nil enc _
 ·have hcl:=hown.1
  have hc:∀i j,i < xs.length->j < sz->∃u,cells[i*sz+j]? =some u:=fun i j hi hj=>by
   have h1:i*sz+sz<=xs.length*sz:=by
    have:=Nat.mul_le_mul_right sz (Nat.succ_le_of_lt hi);rw [Nat.succ_mul] at this;exact this
   exact ⟨_,List.getElem?_eq_getElem (show i*sz+j < cells.length by omega)⟩
  refine .sl enc xs sz g 0 cap (fun i j=>(cells[i*sz+j]?).getD undef) (hm.old g ⟨k,_,_,hk,hv,rfl⟩).1 (hSk _ g hv rfl) oM hnc hesz ?_ ?_
  ·intro i j hi hj;obtain ⟨u,hu⟩:=hc i j hi hj;rw [hu];refine ⟨?_,hone u (List.mem_of_getElem? hu)⟩;have:=jB hheap htake hu
   simpa [Nat.zero_add] using this
  ·intro i j x s hx hs;obtain ⟨u,hu,hd⟩:=hcells i j x s hx hs;rw [hu];exact hd.mono (Nat.le_refl _) fun b _ hb=>⟨fun h=>hb (hS b h),rfl⟩
theorem zam {P:Program} {o:Oper} {Keep:Nat->Prop} {M:List (Nat×Mem)} {ρ:zd} {a:Act} {w:World} (hm:zj Keep M ρ w) {k κ:Nat} {m m':Mem} (hmem:(k,m)∈M) {v:Value} (hv:ρ k=some v)
  {T:TypeId} {sz n:Nat} {cells:List Value} (hown:w.ownsRow 0 T sz v n cells) (hκ:ρ κ=none) (hκM:∀m,(κ,m)∉M) {lo hi:Option Operand} {h:Int}
  (hlo:(lo=none/\(0:Int)=0)∨∃x k,lo=some x/\a.eval x=.int k 0) (hhi:(hi=none/\h=n)∨∃x k,hi=some x/\a.eval x=.int k h) (h1:0<=h) (h2:h<=n)
  (run:∀(ad:Option Addr) (cap q:Nat),v=.slice ad n cap->(Instr.sliceBounds true n cap (lo.map a.eval) (hi.map a.eval) ((none:Option Operand).map a.eval)).run P w=.ok ((0:Int).toNat,h.toNat,q) w->
   (execOp a.eval o).run P w=.ok (.value (sliced ad (0:Int).toNat h.toNat q sz)) w)
  (hrel:∀v',w.ownsRow 0 T sz v' h.toNat (cells.take (h.toNat*sz))->upd ρ κ v' κ=some v'->Stp (Own M ρ) (Own ((κ,m')::zL M k) (upd ρ κ v')) ρ (upd ρ κ v') w w->
   kL (fun b=>Keep b∨Own ((κ,m')::zL M k) (upd ρ κ v') b) (Own ((κ,m')::zL M k) (upd ρ κ v')) (upd ρ κ v') w κ m'):
  zO P o a w (zE Keep M ρ w κ (.own κ) (.repl k m')):=by
 have fin:∀v':Value,(execOp a.eval o).run P w=.ok (.value v') w->w.ownsRow 0 T sz v' h.toNat (cells.take (h.toNat*sz))->zM v'=zM v->v'.oneCell'=true->
   zO P o a w (zE Keep M ρ w κ (.own κ) (.repl k m')):=fun v' hr ho hb h1'=>by
  refine zO.value hr ?_
  have hgrow:=hm.grow (M1:=zL M k) (fun x hx=>zp x hx) (zN hm.keys) hκ hκM v' m' w rfl rfl (.refl _) (Nat.le_refl _) (fun _ _ _=>rfl) (fun _ _ _ _ _ _ _=>rfl)
   (fun b hb'=>by
    rw [hb] at hb';have ho:Own M ρ b:=⟨k,_,v,hmem,hv,hb'⟩
    exact ⟨.inl ho,(hm.old b ho).1,fun k' m v1 g1 g2 g3=>hm.apart k' m k _ v1 v b (zp _ g1) hmem (kF hm.keys _ g1) g2 hv g3 hb'⟩)
   (fun hs=>hrel v' ho zn hs)
  exact ⟨upd ρ κ v',hgrow.1,hgrow.2,.own _ _ zn h1',fun k' hk'=>jZ (by
   rcases hk' with hk' | hk'
   ·omega
   ·simp only [qV] at hk';omega)⟩
 have hcl:=hown.1;have hmul:h.toNat*sz<=n*sz:=Nat.mul_le_mul_right _ oM
 rcases hown.2 with ⟨rfl,h0⟩ | ⟨g,cap,cur,rfl,g0,hheap,hnc,hcm,hcs,htake⟩
 ·subst h0;have hh0:h=0:=oM;subst hh0;obtain ⟨q,hb,hq,hqc,hq1,_⟩:=kR (P:=P) (w:=w) (len:=0) (cap:=0) (mx:=none) (m:=0) (ev:=a.eval) (by cases hi <;> rfl) hlo hhi (.inl ⟨rfl,rfl⟩) oM oM oM oM (Nat.le_refl _);have hq0:q=0:=oM;subst hq0;have hc0:cells=[]:=List.eq_nil_of_length_eq_zero (by simpa using hcl);subst hc0;exact fin _ (run none 0 0 rfl hb) (by simpa [sliced] using World.ownsRow_nil w 0 T sz) rfl rfl
 ·obtain ⟨q,hb,hq,hqc,hq1,_⟩:=kR (P:=P) (w:=w) (len:=n) (cap:=cap) (mx:=none) (m:=n) (ev:=a.eval) (by cases hi <;> rfl) hlo hhi (.inl ⟨rfl,rfl⟩) oM oM oM oM hnc;have hq0:q=cap:=hq1 rfl;subst hq0
  have e:sliced (some ⟨g,0,none⟩) (0:Int).toNat h.toNat q sz=.slice (some ⟨g,0,none⟩) h.toNat q:=by
   unfold sliced;simp only [Int.toNat_zero,Nat.zero_mul,Nat.sub_zero,Option.map_some,kA,Nat.add_zero,ite_self]
  refine fin _ (run _ q q rfl hb) ?_ (by rw [e];rfl) (by rw [e];rfl);rw [e];refine ⟨by rw [List.length_take,hcl];omega,.inr ⟨g,q,cur,rfl,g0,hheap,oM,hcm,hcs,?_⟩⟩;rw [← htake,List.take_take,Nat.min_eq_left hmul]
theorem zcS {P:Program} {Γ:List (TypeId×TI)} (hT:TOK P Γ) {t:TypeId} {x:Operand} {lo hi mx:Option Operand} {svs:List SV} {lm:Nat->Option Mem} {κ:Nat} {K:SV->MD->Prop}
  (h:zdL Γ t lo hi mx svs lm κ K):∃r md,K r md/\kE P (.slice t x lo hi mx) svs lm κ r md:=by
 unfold zdL at h;replace h:=zb h;obtain ⟨hok,h⟩:=h
 split at h
 ·rename_i s rest;replace h:=zc h;obtain ⟨i,hi',h⟩:=h;have hk:=(hT t i hi').kind
  split at h
  ·rename_i e hkind;rw [hkind] at hk;have helem:P.elem t=e:=by have hk:P.underlying t=some (.slice e):=hk;simp [Program.elem,hk]
   have hk':P.underlying t=some (.slice (P.elem t)):=by rw [helem];exact hk
   replace h:=zc h;obtain ⟨j,hj,h⟩:=h;have hsz:=(hT e j hj).size
   have run:∀{o:Oper} (_:o.op=.slice t x lo hi mx) {a:Act} {w:World} {ad:Option Addr} {len cap l h q:Nat},a.eval x=.slice ad len cap->
     (Instr.sliceBounds true len cap (lo.map a.eval) (hi.map a.eval) (mx.map a.eval)).run P w=.ok (l,h,q) w->(execOp a.eval o).run P w=.ok (.value (sliced ad l h q j.sz)) w:=by
    intro o ho a w ad len cap l h q hx hb;simp [execOp,ho,hx,run_sliceAt_slice (h:=hk'),run_slice_any (ht:=hk'),hb,helem,hsz]
   split at h
   ·rename_i α enc xs
    split at h
    ·rename_i hz;obtain ⟨hz1,hz2⟩:=zu hz;obtain ⟨l,r1,h,hl⟩:=zx h;obtain ⟨hh,r2,h,hh'⟩:=zx h;obtain ⟨m,r3,h,hm'⟩:=zx h;obtain ⟨rfl,rfl,rfl⟩:=h.ob;refine ⟨_,_,h.go,.pure fun o ho S Pm ρ a w hgs=>?_⟩;have hgs:Gs S Pm ρ w (SV.sl enc xs::rest) (a.eval x::((k7 lo++(k7 hi++k7 mx)).map a.eval)):=hgs;simp only [List.map_append] at hgs;obtain ⟨g1,e1⟩:=hl a.eval _ hgs.tail;obtain ⟨g2,e2⟩:=hh' a.eval _ g1;obtain ⟨g3,e3⟩:=hm' a.eval [] (by simpa using g2);have hd:=hgs.head.sl_inv
     have key:∃ad cap,a.eval x=.slice ad xs.length cap/\xs.length<=cap:=by
      rcases hd.sl_inv with ⟨rfl,a0,hv⟩ | ⟨_,b,o',cap,_,hv,_,_,_,hc,_⟩
      ·exact ⟨a0,0,hv,by simp⟩
      ·exact ⟨_,cap,hv,hc⟩
     obtain ⟨ad,cap,hx,hcap⟩:=key;have n1:hi≠none:=fun e=>by rw [e] at hz1;cases hz1
     have n2:mx≠none:=fun e=>by rw [e] at hz2;cases hz2
     have n3:jq mx=false:=by cases mx with | none=>exact absurd rfl n2 | some _=>rfl
     obtain ⟨q,hb,hq,hqc,_,hq2⟩:=kR (P:=P) (w:=w) (len:=xs.length) (cap:=cap) (l:=0) (h:=0) (m:=0) hok e1 (e2.imp (fun e=>absurd e.1 n1) id) (e3.imp (fun e=>absurd e.1 n2) id) oM oM oM oM hcap;have hq0:q=0:=hq2 n3;subst hq0;exact ⟨_,run ho hx hb,.d _ _ (.nils _)⟩
    ·obtain ⟨l,r1,h,hl⟩:=zx h;obtain ⟨hh,r2,h,hh'⟩:=zx h;obtain ⟨m,r3,h,hm'⟩:=zx h
     have main:∀{K':Prop},(0<=l/\l<=hh/\hh<=m/\m<=xs.length)->(∀x∈xs,(enc x).length=j.sz)->∀(o:Oper),o.op=.slice t x lo hi mx->∀(S Pm:Nat->Prop) (ρ:zd) (a:Act) (w:World),Gs S Pm ρ w (SV.sl enc xs::rest) ((zG (.slice t x lo hi mx)).map a.eval)->
       ∃v,(execOp a.eval o).run P w=.ok (.value v) w/\D S w (.sl enc ((xs.drop l.toNat).take (hh - l).toNat)) v/\(jq mx=false->hh=m->∃ad,v=.slice ad ((xs.drop l.toNat).take (hh - l).toNat).length ((xs.drop l.toNat).take (hh - l).toNat).length):=?main
     split at h
     ·obtain ⟨hbd,hes⟩:=h.ob;refine ⟨_,_,h.go,.pure fun o ho S Pm ρ a w hgs=>?_⟩;obtain ⟨v,r1,r2,_⟩:=main (K':=True) hbd hes o ho S Pm ρ a w hgs;exact ⟨v,r1,.d _ _ r2⟩
     ·rename_i hnm
      rcases h with h | h
      ·obtain ⟨hbd,hes⟩:=h.ob;refine ⟨_,_,h.go,.pure fun o ho S Pm ρ a w hgs=>?_⟩;obtain ⟨v,r1,r2,_⟩:=main (K':=True) hbd hes o ho S Pm ρ a w hgs;exact ⟨v,r1,.d _ _ r2⟩
      ·obtain ⟨⟨h0,h1,h2,h3⟩,hes⟩:=h.ob;refine ⟨_,_,h.go,.pure fun o ho S Pm ρ a w hgs=>?_⟩;obtain ⟨v,r1,r2,r3⟩:=main (K':=True) ⟨h0,h1,oM,h3⟩ hes o ho S Pm ρ a w hgs;obtain ⟨ad,rfl⟩:=r3 hnm h2;exact ⟨_,r1,.d _ _ (.full _ _ ad r2)⟩
     intro K' ⟨h0,h1,h2,h3⟩ hes o ho S Pm ρ a w hgs;have hgs:Gs S Pm ρ w (SV.sl enc xs::rest) (a.eval x::((k7 lo++(k7 hi++k7 mx)).map a.eval)):=hgs;simp only [List.map_append] at hgs;obtain ⟨g1,e1⟩:=hl a.eval _ hgs.tail;obtain ⟨g2,e2⟩:=hh' a.eval _ g1;obtain ⟨g3,e3⟩:=hm' a.eval [] (by simpa using g2);have hd:=hgs.head.sl_inv
     have key:∃ad cap,a.eval x=.slice ad xs.length cap/\xs.length<=cap:=by
      rcases hd.sl_inv with ⟨rfl,a0,hv⟩ | ⟨_,b,o',cap,_,hv,_,_,_,hc,_⟩
      ·exact ⟨a0,0,hv,by simp⟩
      ·exact ⟨_,cap,hv,hc⟩
     obtain ⟨ad,cap,hx,hcap⟩:=key;obtain ⟨q,hb,hq,hqc,_,hq2⟩:=kR (P:=P) (w:=w) (len:=xs.length) (cap:=cap) hok e1 e2 e3 h0 h1 h2 h3 hcap;refine ⟨_,run ho hx hb,?_,fun hnm heq=>?_⟩
     ·rw [hx] at hd;have:=zhL hd hes (l:=l.toNat) (h:=hh.toNat) oM oM hq hqc
      rwa [show hh.toNat - l.toNat=(hh - l).toNat by omega] at this
     ·have hq3:q=hh.toNat:=by rw [hq2 hnm,heq]
      have hln:((xs.drop l.toNat).take (hh - l).toNat).length=hh.toNat - l.toNat:=by simp;omega
      unfold sliced;rw [hln,hq3]
      split
      ·rename_i he;have:hh.toNat - l.toNat=0:=oM;rw [this];exact ⟨_,rfl⟩
      ·exact ⟨_,rfl⟩
   ·obtain ⟨l,r1,h,hl⟩:=zx h;obtain ⟨hh,r2,h,hh'⟩:=zx h;obtain ⟨m,r3,h,hm'⟩:=zx h;obtain ⟨rfl,rfl,rfl⟩:=h.ob;refine ⟨_,_,h.go,.pure fun o ho S Pm ρ a w hgs=>?_⟩;have hgs:Gs S Pm ρ w (SV.val (.slice none 0 0)::rest) (a.eval x::((k7 lo++(k7 hi++k7 mx)).map a.eval)):=hgs;simp only [List.map_append] at hgs;obtain ⟨g1,e1⟩:=hl a.eval _ hgs.tail;obtain ⟨g2,e2⟩:=hh' a.eval _ g1;obtain ⟨g3,e3⟩:=hm' a.eval [] (by simpa using g2)
    obtain ⟨q,hb,hq,hqc,_⟩:=kR (P:=P) (w:=w) (len:=0) (cap:=0) (l:=0) (h:=0) (m:=0) hok e1 e2 e3 oM oM oM oM (Nat.le_refl _);have hq0:q=0:=oM;subst hq0;exact ⟨_,run ho hgs.head.val_inv hb,.d _ _ (.val _)⟩
   ·rename_i k
    split at h
    ·rename_i T α enc sz xs hlk;replace h:=zb h;obtain ⟨hs,h⟩:=h;have hs:=Nat.eq_of_beq_eq_true hs;subst hs;obtain ⟨l,r1,h,hl⟩:=zx h;obtain ⟨hh,r2,h,hh'⟩:=zx h;obtain ⟨m,r3,h,hm'⟩:=zx h
     rcases h with hsee | hkeep | hwin
     rotate_left
     ·obtain ⟨hnone,hkp⟩:=zb hkeep;have hmx:mx=none:=by cases mx with | none=>rfl | some _=>cases hnone
      subst hmx;obtain ⟨ho1,hgo⟩:=hkp;obtain ⟨rfl,h1,h2⟩:=ho1;refine ⟨_,_,hgo,fun o ho Keep M ρ a w hlm hm hκ hκM hgs=>?_⟩;replace hκ:=hκ _ (Nat.le_refl _) (Nat.lt_succ_self _);replace hκM:=hκM rfl;have hmem:=zg (hlm k _ hlk);have hgs:Gs (fun b=>Keep b∨Own M ρ b) (Own M ρ) ρ w (SV.own k::rest) (a.eval x::((k7 lo++(k7 hi++k7 none)).map a.eval)):=hgs;simp only [List.map_append] at hgs;obtain ⟨g1,e1⟩:=hl a.eval _ hgs.tail;obtain ⟨g2,e2⟩:=hh' a.eval _ g1;obtain ⟨hv,_⟩:=hgs.head.own_inv
      obtain ⟨v',cells,hρ,hown,hlen,hone,hesz,hcells⟩:=hm.rel k _ hmem;rw [hv] at hρ;cases hρ
      refine zam hm hmem hv hown hκ hκM e1 e2 h1 h2 (fun ad cap q hx hb=>run ho hx hb) (fun v' hown' hρ' hs=>⟨v',cells.take (hh.toNat*j.sz),hρ',?_,by simp;omega,fun u hu=>hone u (List.mem_of_mem_take hu),fun x hx=>hesz x (List.mem_of_mem_take hx),fun i' j' x s hx hs'=>?_⟩)
      ·simpa [Nat.min_eq_left (show hh.toNat<=xs.length by omega)] using hown'
      ·rw [List.getElem?_take] at hx
       split at hx
       ·rename_i hi';obtain ⟨u,hu,hd⟩:=hcells i' j' x s hx hs';refine ⟨u,?_,hd.stp hs⟩
        have hj':j' < j.sz:=by
         have:=(List.getElem?_eq_some_iff.1 hs').1;rw [hesz x (List.mem_of_getElem? hx)] at this;exact this
        have:=Nat.mul_le_mul_right j.sz (Nat.succ_le_of_lt hi');rw [Nat.succ_mul] at this;rw [List.getElem?_take,if_pos oM];exact hu
       ·cases hx
     ·obtain ⟨h0,h1,h2,h3⟩:=hwin.ob;refine ⟨_,_,hwin.go,fun o ho Keep M ρ a w hlm hm _ _ hgs=>?_⟩;have hmem:=zg (hlm k _ hlk);have hgs:Gs (fun b=>Keep b∨Own M ρ b) (Own M ρ) ρ w (SV.own k::rest) (a.eval x::((k7 lo++(k7 hi++k7 mx)).map a.eval)):=hgs;simp only [List.map_append] at hgs;obtain ⟨g1,e1⟩:=hl a.eval _ hgs.tail;obtain ⟨g2,e2⟩:=hh' a.eval _ g1;obtain ⟨g3,e3⟩:=hm' a.eval [] (by simpa using g2);obtain ⟨hv,_⟩:=hgs.head.own_inv;obtain ⟨v',cells,hρ,hown,hlen,hone,hesz,hcells⟩:=hm.rel k _ hmem;rw [hv] at hρ;cases hρ
      rcases hown.2 with ⟨_,h00⟩ | ⟨g,cap,cur,hx,_,hheap,hnc,_⟩
      ·omega
      ·obtain ⟨q,hb,hq,hqc,_⟩:=kR (P:=P) (w:=w) (len:=xs.length) (cap:=cap) hok e1 e2 e3 h0 oM h2 h3 hnc;refine zO.value (run ho hx hb) (zE.same hm ?_);unfold sliced;rw [if_neg oM];simp only [Option.map_some,kA,Nat.zero_add];have hn:(hh - l).toNat=hh.toNat - l.toNat:=oM;rw [← hn];exact .win k j.sz l (hh - l) g xs.length cap (q - l.toNat) (hx ▸ hv) oM oM
     obtain ⟨h0,h1,h2,h3⟩:=hsee.ob;refine ⟨_,_,hsee.go,fun o ho Keep M ρ a w hlm hm _ _ hgs=>?_⟩;have hmem:=zg (hlm k _ hlk);have hgs:Gs (fun b=>Keep b∨Own M ρ b) (Own M ρ) ρ w (SV.own k::rest) (a.eval x::((k7 lo++(k7 hi++k7 mx)).map a.eval)):=hgs;simp only [List.map_append] at hgs;obtain ⟨g1,e1⟩:=hl a.eval _ hgs.tail;obtain ⟨g2,e2⟩:=hh' a.eval _ g1;obtain ⟨g3,e3⟩:=hm' a.eval [] (by simpa using g2);obtain ⟨hv,_⟩:=hgs.head.own_inv;obtain ⟨hs,hmo⟩:=hm.let_go (M1:=zL M k) (fun x hx=>zp x hx) (zN hm.keys)
     have hd:D (fun b=>Keep b∨Own (zL M k) ρ b) w (.sl enc xs) (a.eval x):=zal hm hmem
      (fun b hb=>hb.imp id fun ⟨k',m',v',h1,h2,h3⟩=>⟨k',m',v',zp _ h1,h2,h3⟩)
      (fun v b hv' hb hSb=>by
       rcases hSb with hSb | ⟨k',m',v',h4,h5,h6⟩
       ·exact (hm.old b ⟨k,_,v,hmem,hv',hb⟩).2 hSb
       ·exact hm.apart k _ k' m' v v' b hmem (zp _ h4) (Ne.symm (kF hm.keys _ h4)) hv' h5 hb h6) hv
     obtain ⟨v',cells,hρ,hown,hlen,hone,hesz,hcells⟩:=hm.rel k _ hmem
     have key:∃ad cap,a.eval x=.slice ad xs.length cap/\xs.length<=cap:=by
      rcases hd.sl_inv with ⟨rfl,a0,hv⟩ | ⟨_,b,o',cap,_,hv,_,_,_,hc,_⟩
      ·exact ⟨a0,0,hv,by simp⟩
      ·exact ⟨_,cap,hv,hc⟩
     obtain ⟨ad,cap,hx,hcap⟩:=key;obtain ⟨q,hb,hq,hqc,_⟩:=kR (P:=P) (w:=w) (len:=xs.length) (cap:=cap) hok e1 e2 e3 h0 h1 h2 h3 hcap;refine zO.value (run ho hx hb) ⟨ρ,hs,hmo,.d _ _ ?_,fun _ _=>rfl⟩;rw [hx] at hd;have:=zhL hd hesz (l:=l.toNat) (h:=hh.toNat) oM oM hq hqc
     rwa [show hh.toNat - l.toNat=(hh - l).toNat by omega] at this
    ·rename_i T sz xs hlk;replace h:=zb h;obtain ⟨hs,h⟩:=h;have hs:=Nat.eq_of_beq_eq_true hs;subst hs;obtain ⟨hnone,hkp⟩:=zb h;have hmx:mx=none:=by cases mx with | none=>rfl | some _=>cases hnone
     subst hmx;obtain ⟨l,r1,hk1,hl⟩:=zx hkp;obtain ⟨hh,r2,hk2,hh'⟩:=zx hk1;obtain ⟨ho1,hgo⟩:=hk2;obtain ⟨rfl,h1,h2⟩:=ho1;refine ⟨_,_,hgo,fun o ho Keep M ρ a w hlm hm hκ hκM hgs=>?_⟩;replace hκ:=hκ _ (Nat.le_refl _) (Nat.lt_succ_self _);replace hκM:=hκM rfl;have hmem:=zg (hlm k _ hlk);have hgs:Gs (fun b=>Keep b∨Own M ρ b) (Own M ρ) ρ w (SV.own k::rest) (a.eval x::((k7 lo++(k7 hi++k7 none)).map a.eval)):=hgs;simp only [List.map_append] at hgs;obtain ⟨g1,e1⟩:=hl a.eval _ hgs.tail;obtain ⟨g2,e2⟩:=hh' a.eval _ g1
     obtain ⟨hv,_⟩:=hgs.head.own_inv;obtain ⟨v',cells,hρ,hown,hlen,hone,hesz,hcells⟩:=hm.rel k _ hmem;rw [hv] at hρ;cases hρ
     refine zam hm hmem hv hown hκ hκM e1 e2 h1 h2 (fun ad cap q hx hb=>run ho hx hb) (fun v' hown' hρ' hs=>⟨v',cells.take (hh.toNat*j.sz),hρ',?_,by simp;omega,fun u hu=>hone u (List.mem_of_mem_take hu),fun x hx=>hesz x (List.mem_of_mem_take hx),fun i' j' x s hx hs'=>?_⟩)
     ·simpa [Nat.min_eq_left (show hh.toNat<=xs.length by omega)] using hown'
     ·rw [List.getElem?_take] at hx
      split at hx
      ·rename_i hi';obtain ⟨u,hu,hd⟩:=hcells i' j' x s hx hs';refine ⟨u,?_,hd.stp hs⟩
       have hj':j' < j.sz:=by
        have:=(List.getElem?_eq_some_iff.1 hs').1;rw [hesz x (List.mem_of_getElem? hx)] at this;exact this
       have:=Nat.mul_le_mul_right j.sz (Nat.succ_le_of_lt hi');rw [Nat.succ_mul] at this;rw [List.getElem?_take,if_pos oM];exact hu
      ·cases hx
    ·exact h.elim
   ·rename_i k sz at0 n;replace h:=zb h;obtain ⟨hs,h⟩:=h;have hs:=Nat.eq_of_beq_eq_true hs;subst hs;obtain ⟨l,r1,h,hl⟩:=zx h;obtain ⟨hh,r2,h,hh'⟩:=zx h;obtain ⟨m,r3,h,hm'⟩:=zx h;obtain ⟨h0,h1,h2,h3,h4⟩:=h.ob;refine ⟨_,_,h.go,fun o ho Keep M ρ a w hlm hm _ _ hgs=>?_⟩;have hgs:Gs (fun b=>Keep b∨Own M ρ b) (Own M ρ) ρ w (SV.win k j.sz at0 n::rest) (a.eval x::((k7 lo++(k7 hi++k7 mx)).map a.eval)):=hgs;simp only [List.map_append] at hgs;obtain ⟨g1,e1⟩:=hl a.eval _ hgs.tail;obtain ⟨g2,e2⟩:=hh' a.eval _ g1
    obtain ⟨g3,e3⟩:=hm' a.eval [] (by simpa using g2);obtain ⟨b,len,cap,cap',hρ,hx,h5,h6⟩:=hgs.head.win_inv;have hn:n=(n.toNat:Int):=oM;obtain ⟨q,hb,hq,hqc,_⟩:=kR (P:=P) (w:=w) (len:=n.toNat) (cap:=cap') hok e1 (e2.imp (fun e=>⟨e.1,e.2.trans hn⟩) id) (e3.imp (fun e=>⟨e.1,e.2.trans hn⟩) id) h1 oM h3 oM h6;refine zO.value (run ho hx hb) (zE.same hm ?_);unfold sliced;rw [if_neg oM];simp only [Option.map_some,kA];have e7:at0.toNat*j.sz+l.toNat*j.sz=(at0+l).toNat*j.sz:=by rw [← Nat.add_mul];congr 1;omega
    have e8:hh.toNat - l.toNat=(hh - l).toNat:=oM;rw [e7,e8];exact .win k j.sz (at0+l) (hh - l) b len cap (q - l.toNat) hρ oM oM
   ·exact h.elim
  ·exact h.elim
 ·exact h.elim
end Go.Gs
