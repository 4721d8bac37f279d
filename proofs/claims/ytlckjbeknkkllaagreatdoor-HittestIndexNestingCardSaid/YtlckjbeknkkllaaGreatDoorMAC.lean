/- Slices cut, made, built; lengths; least and greatest; append. -/
import Derived.Test.YtlckjbeknkkllaaGreatDoorMAB
set_option maxRecDepth 100000
set_option maxHeartbeats 8000000
set_option linter.all false
namespace Go.Gs
variable{l:LQ}
def z8{o:Option Operand}{d:Int}{K:Int->LQ->Prop}(h:qX o l d K):
  ∃n r,K n r/\∀{S Pm:LG} {ρ:ze} {w:World} (ev:Operand->Value) (rest:LZ),Gs S Pm ρ w l ((yO o).map ev++rest)->
   Gs S Pm ρ w r rest/\((o=none/\n=d)∨∃x k,o=some x/\ev x=.int k n):=by
 unfold qX at h
 split at h
 ·exact⟨_,_,h,λev rest hg=>⟨by simpa[yO] using hg,.inl ⟨rfl,rfl⟩⟩⟩
 rename_i x
 split at h
 ·rename_i k n r;refine⟨_,_,h,λev rest hg=>?_⟩;have hg:Gs _ _ _ _ _ (ev x::rest):=hg;exact⟨hg.tail,.inr ⟨x,k,rfl,hg.head.val_inv⟩⟩
 exact h.elim
def ym{P:Program}{w:World}{len cap:Nat}{lo hi mx:Option Operand}{ev:Operand->Value}{l h m:Int}(hok:zwL hi mx=true)(hlo:(lo=none/\l=0)∨∃x k,lo=some x/\ev x=.int k l)(hhi:(hi=none/\h=len)∨∃x k,hi=some x/\ev x=.int k h)(hmx:(mx=none/\m=len)∨∃x k,mx=some x/\ev x=.int k m)(h0:0<=l)(h1:l<=h)(h2:h<=m)(h3:m<=len)(h4:len<=cap):
  ∃q:Nat,(Instr.sliceBounds true len cap (lo.map ev) (hi.map ev) (mx.map ev)).run P w=.ok (l.toNat,h.toNat,q) w/\h.toNat<=q/\q<=cap/\(zbc mx=true->q=cap)/\(zbc mx=false->q=m.toNat):=by
 have e1:(h.toNat:Int)=h:=QH oM;have e2:(m.toNat:Int)=m:=QH oM
 obtain⟨rfl,rfl⟩|⟨xm,km,rfl,em⟩:=hmx
 ·obtain⟨rfl,rfl⟩|⟨xh,kh,rfl,eh⟩:=hhi
  ·obtain⟨rfl,rfl⟩|⟨xl,kl,rfl,el⟩:=hlo
   ·exact⟨cap,by simp[Instr.sliceBounds],by simp;omega,Xi _,λ_=>rfl,λh=>by cases h⟩
   refine⟨cap,?_,by simp;omega,Xi _,λ_=>rfl,λh=>by cases h⟩;simp[Instr.sliceBounds,el,run_sliceBound w kl l len _ h0 oM]
  obtain⟨rfl,rfl⟩|⟨xl,kl,rfl,el⟩:=hlo
  ·refine⟨cap,?_,oM,Xi _,λ_=>rfl,λh=>by cases h⟩;simp[Instr.sliceBounds,eh,run_sliceBound w kh h cap _ oM oM]
  refine⟨cap,?_,oM,Xi _,λ_=>rfl,λh=>by cases h⟩;simp[Instr.sliceBounds,el,eh,run_sliceBound w kh h cap _ oM oM,run_sliceBound w kl l h.toNat _ h0 oM]
 obtain⟨rfl,rfl⟩|⟨xh,kh,rfl,eh⟩:=hhi
 ·simp[zwL]at hok
 obtain⟨rfl,rfl⟩|⟨xl,kl,rfl,el⟩:=hlo
 ·refine⟨m.toNat,?_,oM,oM,λh=>(by cases h),λ_=>rfl⟩;simp[Instr.sliceBounds,eh,em,run_sliceBound w km m cap _ oM oM,run_sliceBound w kh h m.toNat _ oM oM]
 refine⟨m.toNat,?_,oM,oM,λh=>(by cases h),λ_=>rfl⟩;simp[Instr.sliceBounds,el,eh,em,run_sliceBound w km m cap _ oM oM,run_sliceBound w kh h m.toNat _ oM oM,run_sliceBound w kl l h.toNat _ h0 oM]
variable{S:LG}{α:Type}{xs:List α}{cap:Nat}{sz:Nat}
def zC8{w:World}{enc:α->LQ}{a:Option Addr}{len:Nat}(hd:D S w (.sl enc xs) (.slice a len cap))(hsz:∀x∈xs,(enc x).length=sz){l h:Nat}(hlh:l<=h)(hh:h<=xs.length){q:Nat}(hq:h<=q)(hqc:q<=cap):
  D S w (.sl enc ((xs.drop l).take (h-l))) (sliced a l h q sz):=by
 have hlen:((xs.drop l).take (h-l)).length=h-l:=by simp;omega
 have hmem:∀x∈(xs.drop l).take (h-l),x∈xs:=λx hx=>KZ (XQ hx)
 obtain⟨rfl,a,hv⟩|⟨sz',b,o,cap',c,hv,hb,hS,hl48,hcap,hesz,hc,he⟩:=hd.sl_inv
 ·cases hv
  have:h=0:=by simpa using hh
  subst this;have:l=0:=oM;subst this;have:q=0:=oM;subst this;exact .nil enc _
 cases hv
 have hix:∀i x,((xs.drop l).take (h-l))[i]?=some x->xs[l+i]?=some x/\i<h-l:=by
  intro i x hx;rw[XK]at hx
  split at hx
  ·exact⟨by simpa using hx,by assumption⟩
  cases hx
 have hs:0<h-l->sz'=sz:=λhp=>by
  have h1:=Xa (show l<xs.length by omega);have h2:=Xf h1;rw[←hesz _ h2,←hsz _ h2]
 unfold sliced
 by_cases hql:q=l
 ·rw[Xe hql];have h0:h-l=0:=oM
  have:=D.sl (S:=S) (w:=w) enc ((xs.drop l).take (h-l)) sz' b o (q-l) c hb hS oM oM (λx hx=>hesz x (hmem x hx)) (λi j hi=>by omega) (λi j x s hx=>by
   have:=(hix i x hx).2;omega)
  rwa [hlen]at this
 rw[Xb hql];simp only[Qk,jx]
 have:=D.sl (S:=S) (w:=w) enc ((xs.drop l).take (h-l)) sz' b (o+l*sz) (q-l) (λi j=>c (l+i) j) hb hS oM oM (λx hx=>hesz x (hmem x hx)) (λi j hi hj=>by
  have h5:=hc (l+i) j oM hj;rw[X6,hs oM]at h5;rw[hs oM,show o+l*sz+i*sz+j=o+(l*sz+i*sz)+j by omega]
  exact h5) (λi j x s hx hs'=>he (l+i) j x s (hix i x hx).1 hs')
 rwa [hlen]at this
variable{Keep:LG}{M:LT}{ρ:ze}
def zej{w:World}(hm:zB Keep M ρ w){k:Nat}{T:TypeId}{enc:α->LQ}(hk:(k,Mem.arr T enc sz xs)∈M)(hS:∀b,S b->Keep b∨Own M ρ b)(hSk:∀v b,ρ k=some v->kI v=some b->¬S b){v:Value}(hv:ρ k=some v):D S w (.sl enc xs) v:=by
 obtain⟨v',cells,hρ,hown,hlen,hone,hesz,hcells⟩:=hm.rel k _ hk;rw[hv]at hρ;cases hρ
 obtain⟨rfl,h0⟩|⟨g,cap,cur,rfl,_,hheap,hnc,hcm,hcs,htake⟩:=hown.2
 ·have:xs=[]:=Xo h0;subst this;exact .nil enc _
 have hcl:=hown.1
 have hc:∀i j,i<xs.length->j<sz->∃u,cells[i*sz+j]?=some u:=λi j hi hj=>by
  have h1:i*sz+sz<=xs.length*sz:=by
   have:=Xs sz (X3 hi);rw[X4]at this;exact this
  exact⟨_,Xa (show i*sz+j<cells.length by omega)⟩
 refine .sl enc xs sz g 0 cap (λi j=>(cells[i*sz+j]?).getD undef) (hm.old g ⟨k,_,_,hk,hv,rfl⟩).1 (hSk _ g hv rfl) oM hnc hesz ?_ ?_
 ·intro i j hi hj;obtain⟨u,hu⟩:=hc i j hi hj;rw[hu];refine⟨?_,hone u (Xf hu)⟩;have:=zam hheap htake hu
  simpa[X9] using this
 intro i j x s hx hs;obtain⟨u,hu,hd⟩:=hcells i j x s hx hs;rw[hu];exact hd.mono (Xi _) λb _ hb=>⟨λh=>hb (hS b h),rfl⟩
variable{P:Program}{κ:Nat}{lo:Option Operand}{hi:Option Operand}
def ziG{o:Oper}{a:Act}{w:World}(hm:zB Keep M ρ w){k:Nat}{m m':Mem}(hmem:(k,m)∈M){v:Value}(hv:ρ k=some v){T:TypeId}{n:Nat}{cells:LZ}(hown:w.ownsRow 0 T sz v n cells)(hκ:ρ κ=none)(hκM:∀m,(κ,m)∉M){h:Int}(hlo:(lo=none/\(0:Int)=0)∨∃x k,lo=some x/\a.eval x=.int k 0)(hhi:(hi=none/\h=n)∨∃x k,hi=some x/\a.eval x=.int k h)(h1:0<=h)(h2:h<=n)(run:∀(ad:Option Addr) (cap q:Nat),v=.slice ad n cap->(Instr.sliceBounds true n cap (lo.map a.eval) (hi.map a.eval) ((none:Option Operand).map a.eval)).run P w=.ok ((0:Int).toNat,h.toNat,q) w->
   (execOp a.eval o).run P w=.ok (.value (sliced ad (0:Int).toNat h.toNat q sz)) w)(hrel:∀v',w.ownsRow 0 T sz v' h.toNat (cells.take (h.toNat*sz))->upd ρ κ v' κ=some v'->Stp (Own M ρ) (Own ((κ,m')::z5 M k) (upd ρ κ v')) ρ (upd ρ κ v') w w->
   je (λb=>Keep b∨Own ((κ,m')::z5 M k) (upd ρ κ v') b) (Own ((κ,m')::z5 M k) (upd ρ κ v')) (upd ρ κ v') w κ m'):
  qk P o a w (kG Keep M ρ w κ (.own κ) (.repl k m')):=by
 have fin:∀v':Value,(execOp a.eval o).run P w=.ok (.value v') w->w.ownsRow 0 T sz v' h.toNat (cells.take (h.toNat*sz))->kI v'=kI v->v'.oneCell'=true->
   qk P o a w (kG Keep M ρ w κ (.own κ) (.repl k m')):=λv' hr ho hb h1'=>by
  refine qk.value hr ?_
  have hgrow:=hm.grow (M1:=z5 M k) (λx hx=>kF x hx) (k7 hm.keys) hκ hκM v' m' w rfl rfl (.refl _) (Xi _) (λ_ _ _=>rfl) (λ_ _ _ _ _ _ _=>rfl)
   (λb hb'=>by
    rw[hb]at hb';have ho:Own M ρ b:=⟨k,_,v,hmem,hv,hb'⟩
    exact⟨.inl ho,(hm.old b ho).1,λk' m v1 g1 g2 g3=>hm.apart k' m k _ v1 v b (kF _ g1) hmem (yP hm.keys _ g1) g2 hv g3 hb'⟩)
   (λhs=>hrel v' ho z7 hs)
  exact⟨upd ρ κ v',hgrow.1,hgrow.2,.own _ _ z7 h1',λk' hk'=>zeO (by
   rcases hk' with hk'|hk'
   ·omega
   simp only[za8]at hk';omega)⟩
 have hcl:=hown.1;have hmul:h.toNat*sz<=n*sz:=Xs _ oM
 obtain⟨rfl,h0⟩|⟨g,cap,cur,rfl,g0,hheap,hnc,hcm,hcs,htake⟩:=hown.2
 ·subst h0;have hh0:h=0:=oM;subst hh0;obtain⟨q,hb,hq,hqc,hq1,_⟩:=ym (P:=P) (w:=w) (len:=0) (cap:=0) (mx:=none) (m:=0) (ev:=a.eval) (by cases hi <;> rfl) hlo hhi (.inl ⟨rfl,rfl⟩) oM oM oM oM (Xi _);have hq0:q=0:=oM;subst hq0;have hc0:cells=[]:=Xo (by simpa using hcl);subst hc0;exact fin _ (run none 0 0 rfl hb) (by simpa[sliced] using World.ownsRow_nil w 0 T sz) rfl rfl
 obtain⟨q,hb,hq,hqc,hq1,_⟩:=ym (P:=P) (w:=w) (len:=n) (cap:=cap) (mx:=none) (m:=n) (ev:=a.eval) (by cases hi <;> rfl) hlo hhi (.inl ⟨rfl,rfl⟩) oM oM oM oM hnc;have hq0:q=cap:=hq1 rfl;subst hq0
 have e:sliced (some ⟨g,0,none⟩) (0:Int).toNat h.toNat q sz=.slice (some ⟨g,0,none⟩) h.toNat q:=by
  unfold sliced;simp only[Int.toNat_zero,Jq,Nat.sub_zero,Qk,jx,XU,ite_self]
 refine fin _ (run _ q q rfl hb) ?_ (by rw[e];rfl) (by rw[e];rfl);rw[e];refine⟨by rw[Xv,hcl];omega,.inr ⟨g,q,cur,rfl,g0,hheap,oM,hcm,hcs,?_⟩⟩;rw[←htake,YB,Qj hmul]
variable{Γ:LS}{x:Operand}{svs:LQ}{lm:LH}{K:SV->MD->Prop}
def zou(hT:TOK P Γ){t:TypeId}{mx:Option Operand}(h:zq1 Γ t lo hi mx svs lm κ K):∃r md,K r md/\ya P (.slice t x lo hi mx) svs lm κ r md:=by
 unfold zq1 at h;replace h:=zf h;obtain⟨hok,h⟩:=h
 split at h
 ·rename_i s rest;replace h:=zo h;obtain⟨i,hi',h⟩:=h;have hk:=(hT t i hi').kind
  split at h
  ·rename_i e hkind;rw[hkind]at hk;have helem:P.elem t=e:=by have hk:P.underlying t=some (.slice e):=hk;simp[Program.elem,hk]
   have hk':P.underlying t=some (.slice (P.elem t)):=by rw[helem];exact hk
   replace h:=zo h;obtain⟨j,hj,h⟩:=h;have hsz:=(hT e j hj).size
   have run:∀{o:Oper} (_:o.op=.slice t x lo hi mx) {a:Act} {w:World} {ad:Option Addr} {len cap l h q:Nat},a.eval x=.slice ad len cap->
     (Instr.sliceBounds true len cap (lo.map a.eval) (hi.map a.eval) (mx.map a.eval)).run P w=.ok (l,h,q) w->(execOp a.eval o).run P w=.ok (.value (sliced ad l h q j.sz)) w:=by
    intro o ho a w ad len cap l h q hx hb;simp[execOp,ho,hx,run_sliceAt_slice (h:=hk'),run_slice_any (ht:=hk'),hb,helem,hsz]
   split at h
   ·rename_i α enc xs
    split at h
    ·rename_i hz;obtain⟨hz1,hz2⟩:=zZ hz;obtain⟨l,r1,h,hl⟩:=z8 h;obtain⟨hh,r2,h,hh'⟩:=z8 h;obtain⟨m,r3,h,hm'⟩:=z8 h;obtain⟨rfl,rfl,rfl⟩:=h.ob;refine⟨_,_,h.go,.pure λo ho S Pm ρ a w hgs=>?_⟩;have hgs:Gs S Pm ρ w (SV.sl enc xs::rest) (a.eval x::((yO lo++(yO hi++yO mx)).map a.eval)):=hgs;simp only[XG]at hgs;obtain⟨g1,e1⟩:=hl a.eval _ hgs.tail;obtain⟨g2,e2⟩:=hh' a.eval _ g1;obtain⟨g3,e3⟩:=hm' a.eval [] (by simpa using g2);have hd:=hgs.head.sl_inv
     have key:∃ad cap,a.eval x=.slice ad xs.length cap/\xs.length<=cap:=by
      obtain⟨rfl,a0,hv⟩|⟨_,b,o',cap,_,hv,_,_,_,hc,_⟩:=hd.sl_inv
      ·exact⟨a0,0,hv,sI⟩
      exact⟨_,cap,hv,hc⟩
     obtain⟨ad,cap,hx,hcap⟩:=key;have n1:hi≠none:=λe=>by rw[e]at hz1;cases hz1
     have n2:mx≠none:=λe=>by rw[e]at hz2;cases hz2
     have n3:zbc mx=false:=by cases mx with|none=>exact absurd rfl n2|some _=>rfl
     obtain⟨q,hb,hq,hqc,_,hq2⟩:=ym (P:=P) (w:=w) (len:=xs.length) (cap:=cap) (l:=0) (h:=0) (m:=0) hok e1 (e2.imp (λe=>absurd e.1 n1) id) (e3.imp (λe=>absurd e.1 n2) id) oM oM oM oM hcap;have hq0:q=0:=hq2 n3;subst hq0;exact⟨_,run ho hx hb,.d _ _ (.nils _)⟩
    obtain⟨l,r1,h,hl⟩:=z8 h;obtain⟨hh,r2,h,hh'⟩:=z8 h;obtain⟨m,r3,h,hm'⟩:=z8 h
    have main:∀{K':Prop},(0<=l/\l<=hh/\hh<=m/\m<=xs.length)->(∀x∈xs,(enc x).length=j.sz)->∀(o:Oper),o.op=.slice t x lo hi mx->∀(S Pm:LG) (ρ:ze) (a:Act) (w:World),Gs S Pm ρ w (SV.sl enc xs::rest) ((kL (.slice t x lo hi mx)).map a.eval)->
      ∃v,(execOp a.eval o).run P w=.ok (.value v) w/\D S w (.sl enc ((xs.drop l.toNat).take (hh-l).toNat)) v/\(zbc mx=false->hh=m->∃ad,v=.slice ad ((xs.drop l.toNat).take (hh-l).toNat).length ((xs.drop l.toNat).take (hh-l).toNat).length):=?main
    split at h
    ·obtain⟨hbd,hes⟩:=h.ob;refine⟨_,_,h.go,.pure λo ho S Pm ρ a w hgs=>?_⟩;obtain⟨v,r1,r2,_⟩:=main (K':=True) hbd hes o ho S Pm ρ a w hgs;exact⟨v,r1,.d _ _ r2⟩
    ·rename_i hnm
     rcases h with h|h
     ·obtain⟨hbd,hes⟩:=h.ob;refine⟨_,_,h.go,.pure λo ho S Pm ρ a w hgs=>?_⟩;obtain⟨v,r1,r2,_⟩:=main (K':=True) hbd hes o ho S Pm ρ a w hgs;exact⟨v,r1,.d _ _ r2⟩
     obtain⟨⟨h0,h1,h2,h3⟩,hes⟩:=h.ob;refine⟨_,_,h.go,.pure λo ho S Pm ρ a w hgs=>?_⟩;obtain⟨v,r1,r2,r3⟩:=main (K':=True) ⟨h0,h1,oM,h3⟩ hes o ho S Pm ρ a w hgs;obtain⟨ad,rfl⟩:=r3 hnm h2;exact⟨_,r1,.d _ _ (.full _ _ ad r2)⟩
    intro K' ⟨h0,h1,h2,h3⟩ hes o ho S Pm ρ a w hgs;have hgs:Gs S Pm ρ w (SV.sl enc xs::rest) (a.eval x::((yO lo++(yO hi++yO mx)).map a.eval)):=hgs;simp only[XG]at hgs;obtain⟨g1,e1⟩:=hl a.eval _ hgs.tail;obtain⟨g2,e2⟩:=hh' a.eval _ g1;obtain⟨g3,e3⟩:=hm' a.eval [] (by simpa using g2);have hd:=hgs.head.sl_inv
    have key:∃ad cap,a.eval x=.slice ad xs.length cap/\xs.length<=cap:=by
     obtain⟨rfl,a0,hv⟩|⟨_,b,o',cap,_,hv,_,_,_,hc,_⟩:=hd.sl_inv
     ·exact⟨a0,0,hv,sI⟩
     exact⟨_,cap,hv,hc⟩
    obtain⟨ad,cap,hx,hcap⟩:=key;obtain⟨q,hb,hq,hqc,_,hq2⟩:=ym (P:=P) (w:=w) (len:=xs.length) (cap:=cap) hok e1 e2 e3 h0 h1 h2 h3 hcap;refine⟨_,run ho hx hb,?_,λhnm heq=>?_⟩
    ·rw[hx]at hd;have:=zC8 hd hes (l:=l.toNat) (h:=hh.toNat) oM oM hq hqc
     rwa [show hh.toNat-l.toNat=(hh-l).toNat by omega]at this
    have hq3:q=hh.toNat:=by rw[hq2 hnm,heq]
    have hln:((xs.drop l.toNat).take (hh-l).toNat).length=hh.toNat-l.toNat:=by simp;omega
    unfold sliced;rw[hln,hq3]
    split
    ·rename_i he;have:hh.toNat-l.toNat=0:=oM;rw[this];exact⟨_,rfl⟩
    exact⟨_,rfl⟩
   ·obtain⟨l,r1,h,hl⟩:=z8 h;obtain⟨hh,r2,h,hh'⟩:=z8 h;obtain⟨m,r3,h,hm'⟩:=z8 h;obtain⟨rfl,rfl,rfl⟩:=h.ob;refine⟨_,_,h.go,.pure λo ho S Pm ρ a w hgs=>?_⟩;have hgs:Gs S Pm ρ w (SV.val (.slice none 0 0)::rest) (a.eval x::((yO lo++(yO hi++yO mx)).map a.eval)):=hgs;simp only[XG]at hgs;obtain⟨g1,e1⟩:=hl a.eval _ hgs.tail;obtain⟨g2,e2⟩:=hh' a.eval _ g1;obtain⟨g3,e3⟩:=hm' a.eval [] (by simpa using g2)
    obtain⟨q,hb,hq,hqc,_⟩:=ym (P:=P) (w:=w) (len:=0) (cap:=0) (l:=0) (h:=0) (m:=0) hok e1 e2 e3 oM oM oM oM (Xi _);have hq0:q=0:=oM;subst hq0;exact⟨_,run ho hgs.head.val_inv hb,.d _ _ (.val _)⟩
   ·rename_i k
    split at h
    ·rename_i T α enc sz xs hlk;replace h:=zf h;obtain⟨hs,h⟩:=h;have hs:=Xh hs;subst hs;obtain⟨l,r1,h,hl⟩:=z8 h;obtain⟨hh,r2,h,hh'⟩:=z8 h;obtain⟨m,r3,h,hm'⟩:=z8 h
     rcases h with hsee|hkeep|hwin
     rotate_left
     ·obtain⟨hnone,hkp⟩:=zf hkeep;have hmx:mx=none:=by cases mx with|none=>rfl|some _=>cases hnone
      subst hmx;obtain⟨ho1,hgo⟩:=hkp;obtain⟨rfl,h1,h2⟩:=ho1;refine⟨_,_,hgo,λo ho Keep M ρ a w hlm hm hκ hκM hgs=>?_⟩;replace hκ:=hκ _ (Xi _) (X2 _);replace hκM:=hκM rfl;have hmem:=zn (hlm k _ hlk);have hgs:Gs (λb=>Keep b∨Own M ρ b) (Own M ρ) ρ w (SV.own k::rest) (a.eval x::((yO lo++(yO hi++yO none)).map a.eval)):=hgs;simp only[XG]at hgs;obtain⟨g1,e1⟩:=hl a.eval _ hgs.tail;obtain⟨g2,e2⟩:=hh' a.eval _ g1;obtain⟨hv,_⟩:=hgs.head.own_inv
      obtain⟨v',cells,hρ,hown,hlen,hone,hesz,hcells⟩:=hm.rel k _ hmem;rw[hv]at hρ;cases hρ
      refine ziG hm hmem hv hown hκ hκM e1 e2 h1 h2 (λad cap q hx hb=>run ho hx hb) (λv' hown' hρ' hs=>⟨v',cells.take (hh.toNat*j.sz),hρ',?_,by simp;omega,λu hu=>hone u (XQ hu),λx hx=>hesz x (XQ hx),λi' j' x s hx hs'=>?_⟩)
      ·simpa[Qj (show hh.toNat<=xs.length by omega)] using hown'
      rw[XK]at hx
      split at hx
      ·rename_i hi';obtain⟨u,hu,hd⟩:=hcells i' j' x s hx hs';refine⟨u,?_,hd.stp hs⟩
       have hj':j'<j.sz:=by
        have:=(Xd.1 hs').1;rw[hesz x (Xf hx)]at this;exact this
       have:=Xs j.sz (X3 hi');rw[X4]at this;rw[XK,Xe oM];exact hu
      cases hx
     ·obtain⟨h0,h1,h2,h3⟩:=hwin.ob;refine⟨_,_,hwin.go,λo ho Keep M ρ a w hlm hm _ _ hgs=>?_⟩;have hmem:=zn (hlm k _ hlk);have hgs:Gs (λb=>Keep b∨Own M ρ b) (Own M ρ) ρ w (SV.own k::rest) (a.eval x::((yO lo++(yO hi++yO mx)).map a.eval)):=hgs;simp only[XG]at hgs;obtain⟨g1,e1⟩:=hl a.eval _ hgs.tail;obtain⟨g2,e2⟩:=hh' a.eval _ g1;obtain⟨g3,e3⟩:=hm' a.eval [] (by simpa using g2);obtain⟨hv,_⟩:=hgs.head.own_inv;obtain⟨v',cells,hρ,hown,hlen,hone,hesz,hcells⟩:=hm.rel k _ hmem;rw[hv]at hρ;cases hρ
      obtain⟨_,h00⟩|⟨g,cap,cur,hx,_,hheap,hnc,_⟩:=hown.2
      ·omega
      obtain⟨q,hb,hq,hqc,_⟩:=ym (P:=P) (w:=w) (len:=xs.length) (cap:=cap) hok e1 e2 e3 h0 oM h2 h3 hnc;refine qk.value (run ho hx hb) (kG.same hm ?_);unfold sliced;rw[Xb oM];simp only[Qk,jx,X9];have hn:(hh-l).toNat=hh.toNat-l.toNat:=oM;rw[←hn];exact .win k j.sz l (hh-l) g xs.length cap (q-l.toNat) (hx ▸ hv) oM oM
     obtain⟨h0,h1,h2,h3⟩:=hsee.ob;refine⟨_,_,hsee.go,λo ho Keep M ρ a w hlm hm _ _ hgs=>?_⟩;have hmem:=zn (hlm k _ hlk);have hgs:Gs (λb=>Keep b∨Own M ρ b) (Own M ρ) ρ w (SV.own k::rest) (a.eval x::((yO lo++(yO hi++yO mx)).map a.eval)):=hgs;simp only[XG]at hgs;obtain⟨g1,e1⟩:=hl a.eval _ hgs.tail;obtain⟨g2,e2⟩:=hh' a.eval _ g1;obtain⟨g3,e3⟩:=hm' a.eval [] (by simpa using g2);obtain⟨hv,_⟩:=hgs.head.own_inv;obtain⟨hs,hmo⟩:=hm.let_go (M1:=z5 M k) (λx hx=>kF x hx) (k7 hm.keys)
     have hd:D (λb=>Keep b∨Own (z5 M k) ρ b) w (.sl enc xs) (a.eval x):=zej hm hmem
      (λb hb=>hb.imp id λ⟨k',m',v',h1,h2,h3⟩=>⟨k',m',v',kF _ h1,h2,h3⟩)
      (λv b hv' hb hSb=>by
       rcases hSb with hSb|⟨k',m',v',h4,h5,h6⟩
       ·exact(hm.old b ⟨k,_,v,hmem,hv',hb⟩).2 hSb
       exact hm.apart k _ k' m' v v' b hmem (kF _ h4) (YM (yP hm.keys _ h4)) hv' h5 hb h6) hv
     obtain⟨v',cells,hρ,hown,hlen,hone,hesz,hcells⟩:=hm.rel k _ hmem
     have key:∃ad cap,a.eval x=.slice ad xs.length cap/\xs.length<=cap:=by
      obtain⟨rfl,a0,hv⟩|⟨_,b,o',cap,_,hv,_,_,_,hc,_⟩:=hd.sl_inv
      ·exact⟨a0,0,hv,sI⟩
      exact⟨_,cap,hv,hc⟩
     obtain⟨ad,cap,hx,hcap⟩:=key;obtain⟨q,hb,hq,hqc,_⟩:=ym (P:=P) (w:=w) (len:=xs.length) (cap:=cap) hok e1 e2 e3 h0 h1 h2 h3 hcap;refine qk.value (run ho hx hb) ⟨ρ,hs,hmo,.d _ _ ?_,λ_ _=>rfl⟩;rw[hx]at hd;have:=zC8 hd hesz (l:=l.toNat) (h:=hh.toNat) oM oM hq hqc
     rwa [show hh.toNat-l.toNat=(hh-l).toNat by omega]at this
    ·rename_i T sz xs hlk;replace h:=zf h;obtain⟨hs,h⟩:=h;have hs:=Xh hs;subst hs;obtain⟨hnone,hkp⟩:=zf h;have hmx:mx=none:=by cases mx with|none=>rfl|some _=>cases hnone
     subst hmx;obtain⟨l,r1,hk1,hl⟩:=z8 hkp;obtain⟨hh,r2,hk2,hh'⟩:=z8 hk1;obtain⟨ho1,hgo⟩:=hk2;obtain⟨rfl,h1,h2⟩:=ho1;refine⟨_,_,hgo,λo ho Keep M ρ a w hlm hm hκ hκM hgs=>?_⟩;replace hκ:=hκ _ (Xi _) (X2 _);replace hκM:=hκM rfl;have hmem:=zn (hlm k _ hlk);have hgs:Gs (λb=>Keep b∨Own M ρ b) (Own M ρ) ρ w (SV.own k::rest) (a.eval x::((yO lo++(yO hi++yO none)).map a.eval)):=hgs;simp only[XG]at hgs;obtain⟨g1,e1⟩:=hl a.eval _ hgs.tail;obtain⟨g2,e2⟩:=hh' a.eval _ g1
     obtain⟨hv,_⟩:=hgs.head.own_inv;obtain⟨v',cells,hρ,hown,hlen,hone,hesz,hcells⟩:=hm.rel k _ hmem;rw[hv]at hρ;cases hρ
     refine ziG hm hmem hv hown hκ hκM e1 e2 h1 h2 (λad cap q hx hb=>run ho hx hb) (λv' hown' hρ' hs=>⟨v',cells.take (hh.toNat*j.sz),hρ',?_,by simp;omega,λu hu=>hone u (XQ hu),λx hx=>hesz x (XQ hx),λi' j' x s hx hs'=>?_⟩)
     ·simpa[Qj (show hh.toNat<=xs.length by omega)] using hown'
     rw[XK]at hx
     split at hx
     ·rename_i hi';obtain⟨u,hu,hd⟩:=hcells i' j' x s hx hs';refine⟨u,?_,hd.stp hs⟩
      have hj':j'<j.sz:=by
       have:=(Xd.1 hs').1;rw[hesz x (Xf hx)]at this;exact this
      have:=Xs j.sz (X3 hi');rw[X4]at this;rw[XK,Xe oM];exact hu
     cases hx
    exact h.elim
   ·rename_i k sz at0 n;replace h:=zf h;obtain⟨hs,h⟩:=h;have hs:=Xh hs;subst hs;obtain⟨l,r1,h,hl⟩:=z8 h;obtain⟨hh,r2,h,hh'⟩:=z8 h;obtain⟨m,r3,h,hm'⟩:=z8 h;obtain⟨h0,h1,h2,h3,h4⟩:=h.ob;refine⟨_,_,h.go,λo ho Keep M ρ a w hlm hm _ _ hgs=>?_⟩;have hgs:Gs (λb=>Keep b∨Own M ρ b) (Own M ρ) ρ w (SV.win k j.sz at0 n::rest) (a.eval x::((yO lo++(yO hi++yO mx)).map a.eval)):=hgs;simp only[XG]at hgs;obtain⟨g1,e1⟩:=hl a.eval _ hgs.tail;obtain⟨g2,e2⟩:=hh' a.eval _ g1
    obtain⟨g3,e3⟩:=hm' a.eval [] (by simpa using g2);obtain⟨b,len,cap,cap',hρ,hx,h5,h6⟩:=hgs.head.win_inv;have hn:n=(n.toNat:Int):=oM;obtain⟨q,hb,hq,hqc,_⟩:=ym (P:=P) (w:=w) (len:=n.toNat) (cap:=cap') hok e1 (e2.imp (λe=>⟨e.1,e.2.trans hn⟩) id) (e3.imp (λe=>⟨e.1,e.2.trans hn⟩) id) h1 oM h3 oM h6;refine qk.value (run ho hx hb) (kG.same hm ?_);unfold sliced;rw[Xb oM];simp only[Qk,jx];have e7:at0.toNat*j.sz+l.toNat*j.sz=(at0+l).toNat*j.sz:=by rw[←X6];congr 1;omega
    have e8:hh.toNat-l.toNat=(hh-l).toNat:=oM;rw[e7,e8];exact .win k j.sz (at0+l) (hh-l) b len cap (q-l.toNat) hρ oM oM
   exact h.elim
  exact h.elim
 exact h.elim
def zlh(off:Nat):∀(us:LZ) (k:Nat) (arr:Array Value),off+k+us.length<=arr.size->
  ((us.zipIdx k).foldl (λ(cs:Array Value) (x:Value×Nat)=>cs.setIfInBounds (off+x.2) x.1) arr).toList=arr.toList.take (off+k)++us++arr.toList.drop (off+k+us.length)
 |[],k,arr,_=>by simp
 |u::us,k,arr,h=>by
  simp only[Xq]at h;have ih:=zlh off us (k+1) (arr.setIfInBounds (off+k) u) (by simp;omega);simp only[List.zipIdx_cons,KH];rw[ih];simp only[QU,Xq];apply Kv;intro j;simp only[Kt,Xp,Xv,XP,Qv,XK,KD,Kw,Xq];rw[show min (off+(k+1)) arr.size=off+k+1 by omega,show min (off+k) arr.size=off+k by omega]
  by_cases h1:j<off+k
  ·simp only[show j<off+k+1+us.length by omega,show j<off+k+1 by omega,show j<off+(k+1) by omega,show¬(off+k=j) by omega,h1,show j<off+k+(us.length+1) by omega,if_true,if_false]
  by_cases h2:j=off+k
  ·subst h2;simp[show off+k<off+k+1+us.length by omega,show off+k<arr.size by omega,show off+k<off+(k+1) by omega]
  by_cases h3:j<off+k+1+us.length
  ·simp only[h3,show¬(j<off+k+1) by omega,show j<off+k+(us.length+1) by omega,h1,if_true,if_false];rw[show j-(off+k)=(j-(off+k+1))+1 by omega,KW]
  simp only[h3,show¬(j<off+k+(us.length+1)) by omega,if_false];rw[Xb oM];congr 1;omega
def zov{pl:Nat->Option (Nat×Nat)}{n:Nat}{i:Nat}{r:LB}{s:SV}(h:zbb pl n (i::r) (s::l)=true):
  ∃off,pl i=some (off,(kq s).length)/\off+(kq s).length<=n/\jn (kq s)=true/\zbb pl n r l=true:=by
 simp only[zbb]at h
 split at h
 ·rename_i off sz hp;obtain⟨h1,g1⟩:=zZ h;obtain⟨h2,g2⟩:=zZ g1;obtain⟨h3,g3⟩:=zZ g2;have h1:=Xh h1;subst h1;exact⟨off,hp,Xx h2,h3,g3⟩
 cases h
def zcQ{S Pm:LG}{ρ:ze}{w:World}(pl:Nat->Option (Nat×Nat))(plv:Nat->Option (Nat×Nat))(hpl:∀i p,pl i=some p->plv i=some p)(n:Nat):
  ∀(ids:LB) (svs:LQ) (us:LZ) (cs:LQ) (vs:LZ),zbb pl n ids svs=true->Gs S Pm ρ w svs us->Gs S Pm ρ w cs vs->cs.length=n->
  ∃vs':LZ,Instr.fill plv vs.toArray (ids.zip us)=some vs'.toArray/\Gs S Pm ρ w (zbM pl ids svs cs) vs'
 |[],[],us,cs,vs,_,hu,hc,_=>⟨vs,by simp[Instr.fill],by simpa[zbM] using hc⟩
 |[],_::_,us,cs,vs,hp,_,_,_=>by simp[zbb]at hp
 |i::ids,[],us,cs,vs,hp,_,_,_=>by simp[zbb]at hp
 |i::ids,s::svs,us,cs,vs,hp,hu,hc,hn=>by
  obtain⟨u,us',rfl,h1,h2⟩:=hu.cons_inv;obtain⟨off,p1,p2,p3,p4⟩:=zov hp;obtain⟨g1,_⟩:=u1 p3 h1;have hsp:=zon off hc g1;have hsz:u.cells.size=(kq s).length:=by have:=g1.1;simpa using this
  have hlc:=hc.1
  have hl2:(uC cs off (kq s)).length=n:=by
   unfold uC;simp only[Xp,Xv,KJ];omega
  obtain⟨vs',e,g⟩:=zcQ pl plv hpl n ids svs us' _ _ p4 h2 hsp hl2;refine⟨vs',?_,by simpa[zbM,p1,fstO] using g⟩;rw[←e];simp only[List.zip_cons_cons,Instr.fill,hpl _ _ p1];rw[Xb (by simp[hsz];omega)];congr 1;apply QT;have:=zlh off u.cells.toList 0 vs.toArray (by simp[hsz];omega);simp only[XU]at this;rw[←JV]
  simpa using this
def vq(ps:List (Nat×Operand))(ev:Operand->Value):ps.map (λx=>(x.1,ev x.2))=(ps.map (·.1)).zip ((ps.map (·.2)).map ev):=by
 induction ps with
 |nil=>rfl
 |cons x r ih=>simp[ih]
variable{ps:Array (Nat×Operand)}
def zow(hT:TOK P Γ){t:TypeId}(h:zq3 Γ t (ps.toList.map (·.1)) svs K):∃r,K r .none/\ya P (.build t ps) svs lm κ r .none:=by
 unfold zq3 at h;replace h:=zo h;obtain⟨i,hi,h⟩:=h;have hk:=(hT t i hi).kind;obtain⟨f,h1,h2,h3,z,h4,h5,h6,h7,h8⟩:=(hT t i hi).inf;have hzl:z.cells=i.zero.toArray:=by rw[←h5]
 split at h
 ·rename_i fs hfs;rw[hfs]at hk;replace h:=zf h;obtain⟨hp,h⟩:=h;refine⟨_,h,.pure λo ho S Pm ρ a w hgs=>?_⟩;obtain⟨F,hF,hmap,pl,hpl⟩:=hk
  have hplaces:∀i p,ziy Γ fs i=some p->pl.toArray[i]?=some p:=by
   intro q p hq;unfold ziy at hq
   split at hq
   ·rename_i off ft hn
    split at hq
    ·rename_i j hj
     cases hq
     rw[zsS,←hmap,XA]at hn
     cases hfq:F.toList[q]? with
     |none=>simp[hfq]at hn
     |some fl=>
      simp only[hfq,Qk,Jr,KL]at hn;obtain⟨f',g1,g2,_⟩:=(hT ft j hj).inf
      have key:∀(F:List Field) (pl:List (Nat×Nat)) (q:Nat),F.mapM (λf=>(P.info? f.type).map λi=>(f.offset,i.size))=some pl->F[q]?=some fl->pl[q]?=some (off,j.sz):=by
       intro F
       induction F with
       |nil=>intro pl q _ hq;simp at hq
       |cons x r ih=>
        intro pl q hm hq;simp only[List.mapM_cons,Option.bind_eq_bind,Option.pure_def]at hm
        cases hx:P.info? x.type with
        |none=>simp[hx]at hm
        |some ix=>
         cases hr:r.mapM (λf=>(P.info? f.type).map λi=>(f.offset,i.size)) with
         |none=>simp[hx,hr]at hm
         |some rest=>
          simp[hx,hr]at hm;subst hm
          cases q with
          |zero=>
           simp at hq;subst hq;have:ix=f':=by rw[hn.2,g1]at hx;exact(Xl hx).symm
           subst this;simp[hn.1,g2]
          |succ q=>simpa using ih rest q hr (by simpa using hq)
      simpa using key F.toList pl q hpl hfq
    cases hq
   cases hq
  obtain⟨vs',e,g⟩:=zcQ (ziy Γ fs) (λx=>pl.toArray[x]?) hplaces i.sz (ps.toList.map (·.1)) svs _ (vals i.zero) i.zero hp hgs (Gs.vals _) (by simp[vals,h7]);refine⟨.agg vs'.toArray,?_,.agg _ _ g.1 g.2⟩
  have hb:P.built t (ps.map λ(i,x)=>(i,a.eval x)).toList=some vs'.toArray:=by
   simp only[Program.built,h1,hF,h4,hpl,hzl];rw[←e];congr 1;simp only[Jz];exact vq ps.toList a.eval
  simp only[execOp,ho,Sem.run_bind,run_build w t _ _ hb,Result.andThen_ok,Sem.run_pure]
 ·rename_i len e hfs;rw[hfs]at hk;replace h:=zo h;obtain⟨j,hj,h⟩:=h;replace h:=zf h;obtain⟨hp,h⟩:=h;obtain⟨fe,g1,g2,_⟩:=(hT e j hj).inf;refine⟨_,h,.pure λo ho S Pm ρ a w hgs=>?_⟩;obtain⟨vs',e',g⟩:=zcQ (vJ j.sz) (λi=>some (i*fe.size,fe.size)) (λq p hq=>by simp only[vJ]at hq;rw[g2];exact hq) i.sz (ps.toList.map (·.1)) svs _ (vals i.zero) i.zero hp hgs (Gs.vals _) (by simp[vals,h7]);refine⟨.agg vs'.toArray,?_,.agg _ _ g.1 g.2⟩;have hk:P.underlying t=some (.array len e):=hk
  have hb:P.built t (ps.map λ(i,x)=>(i,a.eval x)).toList=some vs'.toArray:=by
   simp only[Program.built,h1,hk,h4,g1,hzl];rw[←e'];congr 1;simp only[Jz];exact vq ps.toList a.eval
  simp only[execOp,ho,Sem.run_bind,run_build w t _ _ hb,Result.andThen_ok,Sem.run_pure]
 exact h.elim
def zsT{α:Type 1}(l:List α):∀(n i:Nat),(rep n l)[i]?=if i<n*l.length then l[i%l.length]? else none
 |0,i=>by simp[rep]
 |n+1,i=>by
  simp only[rep,Kt,zsT l n]
  by_cases h:i<l.length
  ·rw[Xe h,Xe (by rw[X4];omega),Xw h]
  rw[Xb h];have h2:i-l.length<n*l.length↔i<(n+1)*l.length:=by rw[X4];omega
  by_cases h3:i<(n+1)*l.length
  ·rw[Xe h3,Xe (h2.2 h3)];congr 1;rw[Nat.mod_eq_sub_mod (by omega:l.length<=i)]
  rw[Xb h3,Xb (λh4=>h3 (h2.1 h4))]
def zm0{α:Type 1}(n:Nat)(l:List α):(rep n l).length=n*l.length:=by
 induction n with
 |zero=>simp[rep]
 |succ n ih=>simp[rep,ih,X4];omega
def zfn(z:LZ)(n i:Nat):(madeCells z.toArray (n*z.length)).toList[i]?=if i<n*z.length then z[i%z.length]? else none:=by
 unfold madeCells
 by_cases h:i<n*z.length
 ·rw[Xe h]
  have hz:0<z.length:=by
   rcases Kx z.length with h0|h0
   ·rw[h0]at h;omega
   exact h0
  have hm:i%z.length<z.length:=Kr _ hz;simp[h,hm]
 rw[Xb h];simp;omega
def zC9{Pm:LG}{w:World}(z:LZ)(n:Nat):Gs S Pm ρ w (rep n (vals z)) (madeCells z.toArray (n*z.length)).toList:=by
 refine⟨by simp[zm0,vals,madeCells],λj s v h1 h2=>?_⟩;rw[zsT]at h1;rw[zfn]at h2;simp only[vals,Xz,XA]at h1
 split at h1
 ·rename_i hj;rw[Xe hj]at h2;rw[h2]at h1;simp at h1;subst h1;exact .d _ _ (.val v)
 cases h1
def zdG{α:Type _}{enc:α->LQ}{sz:Nat}:∀{xs:List α},(∀x∈xs,(enc x).length=sz)->∀(i j:Nat) (x:α),xs[i]?=some x->j<sz->(zei enc xs)[i*sz+j]?=(enc x)[j]?
 |[],_,i,j,x,hx,_=>by simp at hx
 |y::ys,h,i,j,x,hx,hj=>by
  have hy:=h y (.head _);simp only[zei]
  cases i with
  |zero=>
   simp at hx;subst hx;rw[XH oM];simp
  |succ i=>
   rw[XB (by rw[hy,X4];omega),hy,show(i+1)*sz+j-sz=i*sz+j by rw[X4];omega];exact zdG (λx hx=>h x (.tail _ hx)) i j x (by simpa using hx) hj
def zdH{α:Type _}{enc:α->LQ}{sz:Nat}:∀{xs:List α},(∀x∈xs,(enc x).length=sz)->(zei enc xs).length=xs.length*sz
 |[],_=>by simp[zei]
 |y::ys,h=>by
  simp only[zei,Xp,Xq,h y (.head _),zdH (λx hx=>h x (.tail _ hx)),X4];omega
def zhp{α:Type _}{enc:α->LQ}:∀{xs:List α},(∀x∈xs,jn (enc x)=true)->jn (zei enc xs)=true
 |[],_=>rfl
 |y::ys,h=>by
  have key:∀(l r:LQ),jn l=true->jn r=true->jn (l++r)=true:=by
   intro l r hl hr
   induction l with
   |nil=>exact hr
   |cons c l ih=>
    simp only[jn]at hl
    split at hl
    ·rename_i hc;simp only[JA,jn,hc];exact ih hl
    cases hl
  exact key _ _ (h y (.head _)) (zhp λx hx=>h x (.tail _ hx))
variable{vs:LZ}
def zli{w:World}(hm:zB Keep M ρ w)(hκ:ρ κ=none)(hκM:∀m,(κ,m)∉M)(T:TypeId)
{enc:α->LQ}(hl:xs.length<=cap) (hc:cap<=maxLen) (h48:xs.length<=281474976710656) (hv:vs.length=cap*sz)
  (hone:∀u∈vs,u.oneCell'=true) (hsz:∀x∈xs,(enc x).length=sz)
  (hd:∀(i j:Nat) x (s:SV),xs[i]?=some x->(enc x)[j]?=some s->∃u,vs[i*sz+j]?=some u/\D (λb=>Keep b∨Own M ρ b) w s u):
  kG Keep M ρ w κ (.own κ) (.push (.arr T enc sz xs)) (.slice (some ⟨w.heap.size,0,none⟩) xs.length cap) (w.alloc (.cells vs.toArray T)):=by
 refine kG.push (u:=.slice (some ⟨w.heap.size,0,none⟩) xs.length cap) (zbQ hm hκ hκM _ _ _ (.cells _ _ _) rfl λhs=>?_) (.own _ _ z7 rfl);have hmul:xs.length*sz<=cap*sz:=Xs _ hl;refine⟨_,vs.take (xs.length*sz),z7,⟨by simp;omega,.inr ⟨_,cap,_,rfl,Xg _,heap_alloc_new w _,hl,hc,by simpa using hv,rfl⟩⟩,h48,λu hu=>hone u (XQ hu),hsz,λi j x s hx hs'=>?_⟩;obtain⟨u,hu,hd'⟩:=hd i j x s hx hs';refine⟨u,?_,hd'.stp hs⟩;have hi:i<xs.length:=(Xd.1 hx).1
 have hj:j<sz:=by
  have:=(Xd.1 hs').1;rw[hsz x (Xf hx)]at this;exact this
 have h1:i*sz+sz<=xs.length*sz:=by
  have:=Xs sz (X3 hi);rw[X4]at this;exact this
 rw[XK,Xe oM];exact hu
def zrc{w:World}(hm:zB Keep M ρ w)(hκ:ρ κ=none)(hκM:∀m,(κ,m)∉M)(T:TypeId)
{xs:LM}(hl:xs.length<=cap) (hc:cap<=maxLen) (h48:xs.length<=281474976710656) (hv:vs.length=cap*sz)
  (hone:∀u∈vs,u.oneCell'=true) (hsz:∀x∈xs,x.length=sz)
  (hd:∀(i j:Nat) x (s:SV),xs[i]?=some x->x[j]?=some s->∃u,vs[i*sz+j]?=some u/\G (λb=>Keep b∨Own M ρ b) (Own M ρ) ρ w s u):
  kG Keep M ρ w κ (.own κ) (.push (.garr T sz xs)) (.slice (some ⟨w.heap.size,0,none⟩) xs.length cap) (w.alloc (.cells vs.toArray T)):=by
 refine kG.push (u:=.slice (some ⟨w.heap.size,0,none⟩) xs.length cap) (zbQ hm hκ hκM _ _ _ (.cells _ _ _) rfl λhs=>?_) (.own _ _ z7 rfl);have hmul:xs.length*sz<=cap*sz:=Xs _ hl;refine⟨_,vs.take (xs.length*sz),z7,⟨by simp;omega,.inr ⟨_,cap,_,rfl,Xg _,heap_alloc_new w _,hl,hc,by simpa using hv,rfl⟩⟩,h48,λu hu=>hone u (XQ hu),hsz,λi j x s hx hs'=>?_⟩;obtain⟨u,hu,hd'⟩:=hd i j x s hx hs';refine⟨u,?_,hd'.stp hs⟩;have hi:i<xs.length:=(Xd.1 hx).1
 have hj:j<sz:=by
  have:=(Xd.1 hs').1;rw[hsz x (Xf hx)]at this;exact this
 have h1:i*sz+sz<=xs.length*sz:=by
  have:=Xs sz (X3 hi);rw[X4]at this;exact this
 rw[XK,Xe oM];exact hu
def zgC(hT:TOK P Γ){t:TypeId}{n:Nat}(h:zcG Γ t n (ps.toList.map (·.1)) svs κ K):∃r md,K r md/\ya P (.buildSlice t n ps) svs lm κ r md:=by
 unfold zcG at h;replace h:=zo h;obtain⟨i,hi,h⟩:=h;have hk:=(hT t i hi).kind
 split at h
 ·rename_i e hfs;rw[hfs]at hk;have hk:P.underlying t=some (.slice e):=hk;replace h:=zo h;obtain⟨j,hj,h⟩:=h;replace h:=zf h;obtain⟨hp,h⟩:=h;obtain⟨f,h1,h2,h3,z,h4,h5,h6,h7,h8⟩:=(hT e j hj).inf;have hzl:z.cells=j.zero.toArray:=by rw[←h5]
  split at h
  ·obtain⟨α,enc,xs,hch,h⟩:=h;obtain⟨e1,e2,e3,e4,e5⟩:=h.ob;refine⟨_,_,h.go,λo ho Keep M ρ a w _ hm hκ hκM hgs=>?_⟩;replace hκ:=hκ _ (Xi _) (X2 _);replace hκM:=hκM rfl
   obtain⟨vs',e',g⟩:=zcQ (vJ j.sz) (λi=>some (i*f.size,f.size)) (λq p hq=>by simp only[vJ]at hq;rw[h2];exact hq) (n*j.sz) (ps.toList.map (·.1)) svs _ _ _ hp hgs (zC9 j.zero n)
    (by simp[zm0,vals,h7])
   have hsz:=λx hx=>(e5 x hx).1
   rw[←hch]at g;have hl:=g.1;rw[zdH hsz,e1]at hl;have hone:=zgA (zhp λx hx=>(e5 x hx).2.1) g
   have run:(execOp a.eval o).run P w=.ok (.value (.slice (some ⟨w.heap.size,0,none⟩) n n)) (w.alloc (.cells vs'.toArray e)):=by
    have e'':Instr.fill (λi=>some (i*f.size,f.size)) ((Array.range (n*f.size)).map λx=>z.cells[x%z.cells.size]!) (ps.map λ(i,x)=>(i,a.eval x)).toList=some vs'.toArray:=by
     rw[←e'];congr 1
     ·simp only[madeCells,hzl,h2,h7,KU]
     simp only[Jz];exact vq ps.toList a.eval
    have hn0:¬(16777216<n*f.size):=by rw[h2];omega
    by_cases hz0:n*f.size=0
    ·have hn:n=0:=by
      rcases Nat.mul_eq_zero.1 hz0 with h|h
      ·exact h
      rw[h2]at h;omega
     subst hn;simp only[Jq]at e'';simp[execOp,ho,Instr.buildSlice,run_underlying hk,sizeOf,typeInfo,h1,Array.range_zero',newRow]at e'' ⊢;rw[e''];simp
    simp[execOp,ho,Instr.buildSlice,run_underlying hk,sizeOf,typeInfo,h1,hn0,hz0,zeroValue,h4,newRow];simp at e'';rw[e''];simp
   refine qk.value run ?_
   have:=zli hm hκ hκM e (enc:=enc) (xs:=xs) (cap:=n) (vs:=vs') oM (by unfold maxLen;omega) oM hl hone hsz (λq p x s hx hs=>by
    have hpj:p<j.sz:=by
     have:=(Xd.1 hs).1;rw[hsz x (Xf hx)]at this;exact this
    have hcg:=zdG hsz q p x hx hpj
    have hlt:q*j.sz+p<vs'.length:=by
     have hq:q<xs.length:=(Xd.1 hx).1;have:=Xs j.sz (X3 hq);rw[X4,e1]at this;omega
    have hu:=Xa hlt
    exact⟨_,hu,y9 (jY (e5 x (Xf hx)).2.2 p s hs) (g.2 _ s _ (hcg.trans hs) hu)⟩)
   rwa [e1]at this
  replace h:=zf h;obtain⟨hcl0,h⟩:=h;obtain⟨xs,hch,h⟩:=h;obtain⟨e1,e2,e3,e4,e5⟩:=h.ob;refine⟨_,_,h.go,λo ho Keep M ρ a w _ hm hκ hκM hgs=>?_⟩;replace hκ:=hκ _ (Xi _) (X2 _);replace hκM:=hκM rfl
  obtain⟨vs',e',g⟩:=zcQ (vJ j.sz) (λi=>some (i*f.size,f.size)) (λq p hq=>by simp only[vJ]at hq;rw[h2];exact hq) (n*j.sz) (ps.toList.map (·.1)) svs _ _ _ hp hgs (zC9 j.zero n)
   (by simp[zm0,vals,h7])
  have hsz:∀x∈xs,(id x).length=j.sz:=e5;rw[←hch]at g;have hl:=g.1;rw[zdH hsz,e1]at hl;have hone:=zgA (hch ▸ hcl0) g
  have run:(execOp a.eval o).run P w=.ok (.value (.slice (some ⟨w.heap.size,0,none⟩) n n)) (w.alloc (.cells vs'.toArray e)):=by
   have e'':Instr.fill (λi=>some (i*f.size,f.size)) ((Array.range (n*f.size)).map λx=>z.cells[x%z.cells.size]!) (ps.map λ(i,x)=>(i,a.eval x)).toList=some vs'.toArray:=by
    rw[←e'];congr 1
    ·simp only[madeCells,hzl,h2,h7,KU]
    simp only[Jz];exact vq ps.toList a.eval
   have hn0:¬(16777216<n*f.size):=by rw[h2];omega
   by_cases hz0:n*f.size=0
   ·have hn:n=0:=by
     rcases Nat.mul_eq_zero.1 hz0 with h|h
     ·exact h
     rw[h2]at h;omega
    subst hn;simp only[Jq]at e'';simp[execOp,ho,Instr.buildSlice,run_underlying hk,sizeOf,typeInfo,h1,Array.range_zero',newRow]at e'' ⊢;rw[e''];simp
   simp[execOp,ho,Instr.buildSlice,run_underlying hk,sizeOf,typeInfo,h1,hn0,hz0,zeroValue,h4,newRow];simp at e'';rw[e''];simp
  refine qk.value run ?_
  have:=zrc hm hκ hκM e (xs:=xs) (cap:=n) (vs:=vs') oM (by unfold maxLen;omega) oM hl hone hsz (λq p x s hx hs=>by
   have hpj:p<j.sz:=by
    have:=(Xd.1 hs).1;rw[e5 x (Xf hx)]at this;exact this
   have hcg:=zdG hsz q p x hx hpj
   have hlt:q*j.sz+p<vs'.length:=by
    have hq:q<xs.length:=(Xd.1 hx).1;have:=Xs j.sz (X3 hq);rw[X4,e1]at this;omega
   have hu:=Xa hlt
   exact⟨_,hu,g.2 _ s _ (hcg.trans hs) hu⟩)
  rwa [e1]at this
 exact h.elim
def zh0(hT:TOK P Γ){t:TypeId}{y:Operand}{l c:SV}(h:zeK Γ t l c κ K):∃r md,K r md/\ya P (.makeSlice t x y) [l,c] lm κ r md:=by
 unfold zeK at h;replace h:=zo h;obtain⟨i,hi,h⟩:=h;have hk:=(hT t i hi).kind
 split at h
 ·rename_i e kl n kc m hfs;rw[hfs]at hk;have hk:P.underlying t=some (.slice e):=hk;replace h:=zo h;obtain⟨j,hj,h⟩:=h;obtain⟨f,h1,h2,h3,z,h4,h5,h6,h7,h8⟩:=(hT e j hj).inf;have hzl:z.cells=j.zero.toArray:=by rw[←h5]
  obtain⟨α,enc,x0,hz,h⟩:=h;obtain⟨e0,e1,e2,e3,e4⟩:=h.ob;refine⟨_,_,h.go,λo ho Keep M ρ a w _ hm hκ hκM hgs=>?_⟩;replace hκ:=hκ _ (Xi _) (X2 _);replace hκM:=hκM rfl;have hx:=(Gs.head hgs).val_inv;have hy:=(Gs.head (Gs.tail hgs)).val_inv;have hrun:=run_make (P:=P) w t e f z hk h1 h4 kl kc n m e1 e2 (by rw[h3,QL];exact e3) oM;refine qk.value (by simp only[execOp,ho,hx,hy,Sem.run_bind,hrun,Result.andThen_ok,Sem.run_pure];rfl) ?_
  have hlen:(madeCells z.cells (m.toNat*f.size)).toList.length=m.toNat*j.sz:=by simp[madeCells,h2]
  have hmg:∀q,(madeCells z.cells (m.toNat*f.size)).toList[q]?=if q<m.toNat*j.sz then j.zero[q%j.sz]? else none:=λq=>by
   have:=zfn j.zero m.toNat q;rw[h7]at this;rw[hzl,h2];exact this
  have henc:(enc x0).length=j.sz:=by rw[hz];simp[vals,h7]
  have:=zli hm hκ hκM e (enc:=enc) (sz:=j.sz) (xs:=List.replicate n.toNat x0) (cap:=m.toNat) (vs:=(madeCells z.cells (m.toNat*f.size)).toList) (by simp;omega) (by unfold maxLen;omega) (by simp;omega) hlen
   (λu hu=>by
    obtain⟨q,hq,rfl⟩:=JH.1 hu;have:=hmg q;rw[Xa hq]at this
    split at this
    ·exact h8 _ (Xf this.symm)
    cases this)
   (λx hx=>by rw[KQ hx];exact henc)
   (λq p x s hx hs=>by
    have hxm:=KQ (Xf hx);subst hxm;have hq:q<n.toNat:=by simpa using (Xd.1 hx).1
    have hpj:p<j.sz:=by
     have:=(Xd.1 hs).1;rw[henc]at this;exact this
    have h1:q*j.sz+j.sz<=m.toNat*j.sz:=by
     have:=Xs j.sz (show q+1<=m.toNat by omega);rw[X4]at this;exact this
    have hmod:(q*j.sz+p)%j.sz=p:=by rw[Ky,QE];exact Xw hpj
    rw[hmg,Xe oM,hmod];rw[hz]at hs;simp only[vals,XA]at hs
    cases hu:j.zero[p]? with
    |none=>simp[hu]at hs
    |some u=>
     simp[hu]at hs;subst hs
     exact⟨u,rfl,.val u⟩)
  simpa using this
 exact h.elim
end Go.Gs
