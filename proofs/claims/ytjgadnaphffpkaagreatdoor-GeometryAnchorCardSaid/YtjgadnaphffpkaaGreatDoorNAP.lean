/- Paths cut to polylines, the reference's. -/
import Derived.Test.YtjgadnaphffpkaaGreatDoorNA
import Derived.Test.YtjgadnaphffpkaaGreatDoorNAO
import Derived.Test.YtjgadnaphffpkaaGreatDoorNAM
set_option maxRecDepth 100000
set_option maxHeartbeats 8000000
set_option linter.all false
namespace Go.Gs
open Go.Proofs
variable{l:List Pt}
theorem zhy(h:jI l):qm (qm l)=qm l:=by
 have:=zl7 h;generalize qm l=m at*;unfold qm;rw[if_neg (λk=>this k.1 k.2)]
def ze2(l:List Sg)(tol:Int):Nat->Nat->List Pt->Pl×Nat×Int
 | 0,i,q=>(⟨q,false⟩,i,0)
 | k+1,i,q=>match l[i]? with
  | none=>(⟨q,false⟩,i,0)
  | some s=>if s.v=1 then(⟨q,false⟩,i,0) else if s.v=5 then(⟨qm q,true⟩,i+1,0)
   else if (kR (qV q) s tol).2≠0 then(⟨[],false⟩,0,(kR (qV q) s tol).2) else ze2 l tol k (i+1) (kC q (kR (qV q) s tol).1)
variable{tol:Int}{i:Nat}{q:List Pt}
theorem zkv{l:List Sg}{s:Sg}(h:l[i]? =some s):ze2 l tol (l.length - i) i q=
  if s.v=1 then(⟨q,false⟩,i,0) else if s.v=5 then(⟨qm q,true⟩,i+1,0)
   else if (kR (qV q) s tol).2≠0 then(⟨[],false⟩,0,(kR (qV q) s tol).2) else ze2 l tol (l.length - (i+1)) (i+1) (kC q (kR (qV q) s tol).1):=by
 have hi:=(Xc.1 h).1;rw[show l.length - i=(l.length - (i+1))+1 by omega,ze2,h]
theorem zmq{l:List Sg}(h:l.length<=i):ze2 l tol (l.length - i) i q=(⟨q,false⟩,i,0):=by
 rw[show l.length - i=0 by omega];rfl
def SubOK(l:List Sg)(tol:Int)(a:Nat)(out:List Pl)(r:Pl×Nat×Int):Prop:=
 (r.2.2≠0/\jq l tol=([],r.2.2))∨(r.2.2=0/\a < r.2.1/\r.2.1<=l.length/\(∀y,l[r.2.1]? =some y->y.v=1)/\jq (l.take r.2.1) tol=(out++[r.1],0)/\r.1.pts.length<=1+64*l.length)
theorem zkw{l:List Sg}{tol:Int}{a:Nat}{out:List Pl}(ho:oks 5 l):∀(k i:Nat) (q:List Pt),k=l.length - i->a < i->i<=l.length->jq (l.take i) tol=(out++[⟨q,false⟩],0)->q.length<=1+64*i->SubOK l tol a out (ze2 l tol (l.length - i) i q)
 | 0,i,q,hk,h1,h2,h3,h4=>by
  rw[zmq oM];exact .inr ⟨rfl,h1,h2,λy hy=>by have:=(Xc.1 hy).1;dsimp only at this;omega,h3,by show q.length<=_;omega⟩
 | k+1,i,q,hk,h1,h2,h3,h4=>by
  have hi:i < l.length:=oM;have hx:l[i]? =some l[i]:=Xb hi;have e:=vT (tol:=tol) hx;rw[h3]at e;rw[zkv hx];generalize l[i]=s at*
  by_cases v1:s.v=1
  ·rw[if_pos v1];exact .inr ⟨rfl,h1,h2,λy hy=>by have hy:l[i]? =some y:=hy;rw[hx]at hy;rw[← Xi hy];exact v1,h3,by show q.length<=_;omega⟩
  rw[if_neg v1];rw[zqd v1]at e
  by_cases v5:s.v=5
  ·rw[if_pos v5];have eg:zbd ⟨q,false⟩ s tol=(⟨qm q,true⟩,0):=by unfold zbd;rw[if_pos v5]
   rw[eg,qR rfl]at e;refine .inr ⟨rfl,by show a < i+1;omega,by show i+1<=_;omega,λy hy=>?_,e,?_⟩
   ·have he:=zrU ho hy;have hl:zpQ 5 l (i+1)=s.v:=zke hx;dsimp only at he;rw[hl,v5]at he;exact(u9.1 he).2.1.resolve_right λh=>h.1 rfl
   ·have:=zqc q;show(qm q).length<=_;omega
  rw[if_neg v5];have eg:zbd ⟨q,false⟩ s tol=if (kR (qV q) s tol).2≠0 then(⟨q,false⟩,(kR (qV q) s tol).2) else(⟨kC q (kR (qV q) s tol).1,false⟩,0):=by unfold zbd;rw[if_neg v5]
  by_cases k0:(kR (qV q) s tol).2=0
  ·rw[qR k0]at eg ⊢;rw[eg,qR rfl]at e;have h5:=vA (kR (qV q) s tol).1 q;have h6:=znY (qV q) s tol;exact zkw ho k (i+1) _ oM oM oM e oM
  ·rw[if_pos k0]at eg ⊢;rw[eg,if_pos k0]at e;have:=zl8 hx (by rw[e];exact k0);rw[e]at this;exact .inl ⟨k0,this⟩
theorem zCD{p:Pt}{s:Sg}(h:(kR p s tol).2=0):(kR p s tol).1≠[]:=by
 have up:∀(f:Int->Pt) (n:Nat),1<=n->zb7 f n≠[]:=λf n hn e=>by
  have:=zak f n;rw[e]at this;simp at this;omega
 unfold kR at h ⊢
 by_cases h3:s.v=3
 ·rw[if_pos h3]at h ⊢;have k:(yc p s.a s.b tol).2=0:=Xa.1 λk=>k (by rw[zhu k]at h;exact h)
  have ok:=(yV (show(k7 _ tol _).2=0 from k)).1;have ok:1<=(yc p s.a s.b tol).1/\(yc p s.a s.b tol).1<=64:=ok;rw[zkt k];dsimp only;exact up _ _ (show 1<=(yc p s.a s.b tol).1.toNat by omega)
 ·rw[if_neg h3]at h ⊢
  by_cases h4:s.v=4
  ·rw[if_pos h4]at h ⊢;have k:(yd p s.a s.b s.c tol).2=0:=Xa.1 λk=>k (by rw[zhw k]at h;exact h)
   have ok:=(yV (show(k7 _ tol _).2=0 from k)).1;have ok:1<=(yd p s.a s.b s.c tol).1/\(yd p s.a s.b s.c tol).1<=64:=ok;rw[zku k];dsimp only;exact up _ _ (show 1<=(yd p s.a s.b s.c tol).1.toNat by omega)
  ·rw[if_neg h4];simp
def subE(r:Pl×Nat×Int):SV:=.tup [.agg (plE r.1),i64 (r.2.1:Int),i64 r.2.2]
theorem zr0{q more:List Pt}{z:Pt}(h:more[more.length - 1]? =some z):qV (kC q more)=z:=by
 have hne:more≠[]:=λe=>by rw[e]at h;simp at h
 unfold qV;rw[QW,zl6 more q hne,KQ,h];rfl
theorem zvb(l:List Sg)(a:Nat)(x:Sg)(tol:Int)(hx:l[a]? =some x)(hlen:l.length<=300):
  CG0 119 [.sl sgE l,i64 (a:Int),i64 tol] [] (subE (ze2 l tol (l.length - (a+1)) (a+1) [x.a])) []:=by
 have ha:=(Xc.1 hx).1;refine zcM 1 tok mix Tryz.func119 rfl rfl rfl<|Ob.o4 ?_;intro x' hx';have ex:x'=x:=Xi ((show l[a]? =some x' from hx').symm.trans hx);rw[ex];refine⟨Pt,ptE,[x.a],rfl,Ob.o0 ?_⟩;refine Ar.o ?_;generalize hR:ze2 l tol (l.length - (a+1)) (a+1) [x.a]=R
 refine⟨Nat×List Pt,λs=>⟨[(0,.sl sgE l),(2,i64 tol),(6,.loc 0 0),(9,.loc 1 0),(10,.loc 2 0),(11,i64 (s.1:Int))],
   [(0,.box 118 [.val (.slice none 0 0),.val (.bool false)]),(1,.box 35 (ptE (qV s.2))),(2,.box 118 [.own 3,.val (.bool false)]),(3,.arr 35 ptE 2 s.2)],4,102,0⟩,
  λs=>a < s.1/\s.1<=l.length/\ze2 l tol (l.length - s.1) s.1 s.2=R/\jI s.2/\s.2≠[]/\s.2.length<=1+64*s.1,λs=>l.length - s.1,(a+1,[x.a]),?_,?_,?_⟩
 ·exact⟨by dsimp only;omega,by dsimp only;omega,hR,⟨λ_ h=>(by cases h),trivial⟩,by simp,by show 1<=_;omega⟩
 ·exact zL [0,1,3,2] ⟨rfl,rfl,rfl,rfl,rfl,congrArg (λn=>some (i64 n)) (show((a+1:Nat):Int)=(a:Int)+1 by omega).symm,trivial⟩ ⟨rfl,rfl,rfl,rfl,trivial⟩
 rintro⟨i,q⟩ ⟨h1,h2,h3,h4,h5,h6⟩
 dsimp only at h1 h2 h3 h4 h5 h6;have hq1:0 < q.length:=X5 λh=>h5 (Xn h)
 have out:(l.length<=i∨∃s,l[i]? =some s/\s.v=1)->R=(⟨q,false⟩,i,0):=λh=>by
  rw[← h3]
  rcases h with h | ⟨s,hs,hv⟩
  ·exact zmq h
  ·rw[zkv hs,if_pos hv]
 have fin:R=(⟨q,false⟩,i,0)->LE (.tup [.agg [.sl ptE q,bl false],i64 (i:Int),i64 0]) (subE R):=λh=>by
  rw[h];exact vt (.cons (qF (.cons .refl (.cons (zd (show ¬(false=true) by decide)) .nil))) (.cons .refl (.cons .refl .nil)))
 intro hl1;refine⟨λg=>?_,λg=>?_⟩;rotate_left
 ·have g:¬(i:Int) < l.length:=g;exact fin (out (.inl oM))
 have g:(i:Int) < l.length:=g;refine Ob.o ?_;intro s hs;have hs:l[i]? =some s:=hs;refine⟨λv1=>?_,λv1=>?_⟩;rotate_left
 ·have v1:s.v=1:=Xa.1 v1;exact fin (out (.inr ⟨s,hs,v1⟩))
 have v1:¬s.v=1:=v1;rw[zkv hs,if_neg v1]at h3;refine Ob.o ?_;intro s' hs';have es:s'=s:=Xi ((show l[i]? =some s' from hs').symm.trans hs);rw[es];refine⟨λv5=>?_,λv5=>?_⟩
 ·have v5:s.v=5:=v5;rw[if_pos v5]at h3
  refine⟨List Pt,λq'=>⟨[(6,.loc 0 0),(10,.loc 2 0),(11,i64 (i:Int))],
    [(0,.box 118 [.val (.slice none 0 0),.val (.bool false)]),(2,.box 118 [.own 3,.val (.bool true)]),(3,.arr 35 ptE 2 q')],4,102,0⟩,
   λq'=>qm q'=qm q/\jI q'/\q'.length<=q.length,λq'=>q'.length,q,?_,?_,?_⟩
  ·exact⟨rfl,h4,Xh _⟩
  ·exact zE [(0,some 0),(2,some 2),(3,some 3)]
  rintro q' ⟨t1,t2,t3⟩
  have fin2:qm q'=q'->LE (.tup [.agg [.sl ptE q',bl true],i64 ((i:Int)+1),i64 0]) (subE R):=λh=>by
   rw[← h3,← t1,h];exact vt (.cons (qF (.cons .refl (.cons (zR rfl) .nil))) (.cons (zj (show(i:Int)+1=((i+1:Nat):Int) by omega)) (.cons .refl .nil)))
  refine Dr.d ?_;intro hl4;refine⟨λm=>?_,λm=>?_⟩
  ·have m:(1:Int) < q'.length:=m;intro hl5;refine Ar.o<|Ob.o<|Ob.o ?_;intro z hz
   have hz:q'[q'.length - 1]? =some z:=by
    have hz:q'[((q'.length:Int) - 1).toNat]? =some z:=hz
    rwa [show((q'.length:Int) - 1).toNat=q'.length - 1 by omega]at hz
   refine Ob.o<|Ob.o ?_;intro f hf;have hf:q'[0]? =some f:=hf;refine Ob.mk (by kernel_rfl)<|⟨λk=>?_,λk=>?_⟩
   ·have k:z=f:=k9.1 k;have et:=zgv (show 1 < q'.length by omega) hz hf k;intro hl7;refine Ar.o<|Sl.keep (Ob.mk ⟨rfl,oM,oM⟩ ?_);refine⟨q'.take (q'.length - 1),⟨?_,?_,?_⟩,zA8 [(0,some 0),(2,some 2),(3,some 4)] ⟨rfl,rfl,congrArg (λq=>some (Mem.arr 35 ptE 2 q)) (by rw[show((q'.length:Int) - 1).toNat=q'.length - 1 by omega]),trivial⟩,?_⟩
    ·rw[← et,zhy t2,t1]
    ·rw[← et];exact zbe t2
    ·rw[Xk];omega
    ·show(q'.take (q'.length - 1)).length < q'.length;rw[Xk];omega
   ·have k:¬z=f:=λh=>k (k9.2 h)
    exact Ar.o<|fin2 (ziP hz hf k)
  ·have m:¬(1:Int) < q'.length:=m;exact Ob.mk (by kernel_rfl)<|Ar.o<|fin2 (zgw oM)
 have v5:¬s.v=5:=v5;rw[if_neg v5]at h3;refine Dr.d<|Ob.o ?_;intro s' hs';have es:s'=s:=Xi ((show l[i]? =some s' from hs').symm.trans hs);rw[es];refine zb.t (r_seg (qV q) s tol)<|Ob.mk (by kernel_rfl)<|⟨λk=>?_,λk=>?_⟩
 ·have k:¬(kR (qV q) s tol).2=0:=k;rw[if_pos k]at h3;rw[← h3];exact vt (.cons (qF (.cons zD (.cons (zd (show ¬(false=true) by decide)) .nil))) (.cons .refl (.cons .refl .nil)))
 have k:(kR (qV q) s tol).2=0:=Xa.1 k;rw[qR k]at h3;have sl:=znY (qV q) s tol;have sn:=zCD k;have sn1:0 < (kR (qV q) s tol).1.length:=X5 λh=>sn (Xn h)
 have pl:=vA (kR (qV q) s tol).1 q
 refine zb.give [3] 1 [.own 0,.sl ptE (kR (qV q) s tol).1] [(0,.arr 35 ptE 2 q)] [(1,.arr 35 ptE 2 (kC q (kR (qV q) s tol).1))] (.own 1) (zCC q (kR (qV q) s tol).1 oM sl)
  LEs.refl rfl rfl rfl ⟨⟨_,rfl,rfl,trivial⟩,trivial⟩ rfl ⟨⟨rfl,trivial⟩,trivial⟩ ?_
 intro hl9;refine Ar.o<|Ob.o ?_;intro z hz
 have hz:(kR (qV q) s tol).1[(kR (qV q) s tol).1.length - 1]? =some z:=by
  have hz:(kR (qV q) s tol).1[(((kR (qV q) s tol).1.length:Int) - 1).toNat]? =some z:=hz
  rwa [show(((kR (qV q) s tol).1.length:Int) - 1).toNat=(kR (qV q) s tol).1.length - 1 by omega]at hz
 have elp:=zr0 (q:=q) hz;refine Ar.o ?_
 refine⟨(i+1,kC q (kR (qV q) s tol).1),⟨by dsimp only;omega,by dsimp only;omega,h3,zfp _ h4,znN _ h5,by dsimp only;omega⟩,
  zC [0,1,2,4] ⟨rfl,?_,rfl,rfl,trivial⟩,by dsimp only;omega⟩
 exact congrArg (λp=>some (Mem.box 35 (ptE p))) elp.symm
theorem zx3(l:List Sg)(tol:Int):CG0 58 [.sl sgE l,i64 tol] [] (zn0 (zV l tol)) []:=by
 refine zc Tryz.func58 ?_;refine zb.t (zgh l)<|⟨λa0=>jw (by unfold zV;rw[if_pos a0]),λa0=>?_⟩;have hv:=Xa.1 a0;have hlen:=zhl hv;have ho:=(zaQ.1 hv).2;refine zb.t (zxK tol)<|⟨λa1=>jw (by unfold zV;rw[kQ hv,if_pos a1]),λa1=>?_⟩;have ht:=Xa.1 a1;have eQ:zV l tol=if (jq l tol).2≠0 then([],(jq l tol).2) else if 4096 < jt (jq l tol).1 then([],5) else((jq l tol).1,0):=by unfold zV;rw[kQ hv,kQ ht]
 refine⟨Pl,plE,[],rfl,Ob.o2 ?_⟩
 refine⟨Nat×List Pl,λs=>⟨[(0,.sl sgE l),(1,i64 tol),(6,.own 0),(7,i64 (jt s.2:Int)),(8,i64 (s.1:Int))],[(0,.arr 118 plE 2 s.2)],1,47,0⟩,
  λs=>s.1<=l.length/\jq (l.take s.1) tol=(s.2,0)/\(∀y,l[s.1]? =some y->y.v=1)/\s.2.length<=s.1/\∀q∈s.2,q.pts.length<=20000,λs=>l.length - s.1,(0,[]),?_,?_,?_⟩
 ·exact⟨Xe _,rfl,λy hy=>zh8 hv y hy,Xe _,λq hq=>by cases hq⟩
 ·exact zf [0]
 rintro⟨i,out⟩ ⟨h1,h2,h3,h4,h5⟩
 dsimp only at h1 h2 h3 h4 h5;have hc:=znZ h5 out.length (Xh _);rw[X9]at hc;intro hl3;refine⟨λg=>?_,λg=>?_⟩
 ·have g:(i:Int) < l.length:=g;obtain⟨x,hx⟩:∃x,l[i]? =some x:=⟨_,Xb oM⟩;have v1:=h3 x hx;have e:=vT (tol:=tol) hx;rw[h2,zgn,if_pos v1]at e;have sp:=zkw (a:=i) ho (l.length - (i+1)) (i+1) [x.a] rfl oM oM e (by show 1<=_;omega);refine zb.t (zvb l i x tol hx oM) ?_;generalize ze2 l tol (l.length - (i+1)) (i+1) [x.a]=R at*;obtain⟨p,j,er⟩:=R;refine⟨λk=>?_,λk=>?_⟩
  ·have k:¬er=0:=k
   rcases sp with⟨_,sp⟩ | ⟨sp,_⟩
   ·refine jw ?_;dsimp only at sp;rw[eQ,sp,if_pos k]
   ·exact absurd sp k
  have k:er=0:=Xa.1 k
  rcases sp with⟨sp,_⟩ | ⟨_,s1,s2,s3,s4,s5⟩
  ·exact absurd k sp
  dsimp only at s1 s2 s3 s4 s5;intro hl6;have hl6:p.pts.length<=9223372036854775807:=hl6;refine Ar.fit (by show _<=(jt out:Int)+(p.pts.length:Int)/\(jt out:Int)+(p.pts.length:Int)<=_;omega)<|⟨Pl,plE,[p],rfl,Ob.o0 ?_⟩;refine⟨[p],rfl,Ob.mk ⟨(by show _*(32:Int)<=_;simp only[Xl,Xs];omega),(by simp only[Xl,Xs];omega),dC,λ_ _=>rfl⟩ ?_⟩
  refine⟨(j,out++[p]),⟨s2,s4,s3,by simp only[Xj,Xl,Xs];omega,λq hq=>?_⟩,
   zL [3] ⟨rfl,rfl,rfl,congrArg (λn=>some (i64 n)) (show(jt out:Int)+(p.pts.length:Int)=(jt (out++[p]):Int) by unfold jt;simp),rfl,trivial⟩ ⟨rfl,trivial⟩,by dsimp only;omega⟩
  rcases Xo.1 hq with hq | hq
  ·exact h5 q hq
  ·rw[Xq.1 hq];omega
 ·have g:¬(i:Int) < l.length:=g;rw[Xf oM]at h2;rw[eQ,h2,qR rfl];refine⟨λm=>?_,λm=>?_⟩
  ·have m:(4096:Int) < (jt out:Int):=m;exact jw (if_pos (show 4096 < jt out by omega))
  ·have m:¬(4096:Int) < (jt out:Int):=m;exact zx1 (if_neg (show ¬4096 < jt out by omega))
theorem zfv:∀(l A:List Pt) (p:Pt),kC (A++[p]) l=A++jd (p::l)
 | [],A,p=>rfl
 | x::r,A,p=>by
  have e:kC (A++[p]) (x::r)=kC (yI (A++[p]) x) r:=rfl;rw[e];unfold yI;rw[Ju];have d:jd (p::x::r)=if p=x then jd (x::r) else p::jd (x::r):=rfl
  rw[d]
  by_cases c:p=x
  ·subst c;rw[if_pos rfl,if_pos rfl];exact zfv r A p
  ·rw[if_neg (λk=>c (Xi k)),if_neg c,zfv r (A++[p]) x,XK];rfl
theorem zqe(l:List Pt):kC [] l=jd l:=by
 cases l with
 | nil=>rfl
 | cons p r=>exact zfv r [] p
def dd(xs:List Pt)(i:Nat):List Pt:=kC [] (xs.take i)
variable{xs:List Pt}{x:Pt}
theorem zgx(h:xs[i]? =some x):dd xs (i+1)=yI (dd xs i) x:=by
 unfold dd;exact zhx h
theorem zCE(xs:List Pt)(i:Nat):(dd xs i).length<=i:=by
 unfold dd;have:=vA (xs.take i) [];rw[Xk]at this;simp at this;omega
theorem zr1{xs:List Pt}{i:Nat}(h:xs.length<=i):dd xs i=jd xs:=by
 unfold dd;rw[Xf h,zqe]
variable{z:Pt}
theorem ztz(h:xs[i]? =some z):(dd xs (i+1)).getLast?=some z:=by
 rw[zgx h];exact zpP _ _
theorem zCF(h:xs[0]? =some x):dd xs 1=xs.take 1:=by
 rw[zgx h,Xm,h];rfl
theorem zn1(hz:xs[i]? =some z)(hx:xs[i+1]? =some x)(e:z=x):dd xs (i+2)=dd xs (i+1):=by
 rw[zgx hx];unfold yI;rw[ztz hz,e,if_pos rfl]
theorem zkx(hz:xs[i]? =some z)(hx:xs[i+1]? =some x)(e:¬z=x):dd xs (i+2)=dd xs (i+1)++[x]:=by
 rw[zgx hx];unfold yI;rw[ztz hz,if_neg (λk=>e (Xi k))]
theorem zz2(h:xs[i]? =some x):xs.take (i+1)=xs.take i++[x]:=by
 rw[Xm,h];rfl
theorem zvc(xs:List Pt)(hx:xs.length<=4096):CG0 245 [.own 0] [(0,.arr 35 ptE 2 xs)] (.sl ptE (jd xs)) []:=by
 refine zif 1 tok mix Tryz.func245 rfl rfl rfl ?_;intro hl1;refine⟨λg=>?_,λg=>?_⟩
 ·have g:(xs.length:Int) < 2:=g;refine z9 ?_
  match xs,g with
  | [],_=>rfl
  | [p],_=>rfl
  | _::_::_,g=>exact absurd g (by simp only[Xl];omega)
 have g:¬(xs.length:Int) < 2:=g;refine⟨Nat,λi=>⟨[(0,.own 0),(3,i64 ((i:Int)+1))],[(0,.arr 35 ptE 2 xs)],1,61,1⟩,λi=>i+1<=xs.length/\dd xs (i+1)=xs.take (i+1),λi=>xs.length - i,0,?_,?_,?_⟩
 ·exact⟨oM,zCF (Xb oM)⟩
 ·exact zf [0]
 rintro i ⟨h1,h2⟩
 intro hl3;refine⟨λg4=>?_,λg4=>?_⟩;rotate_left
 ·have g4:¬(i:Int)+1 < xs.length:=g4;refine z9 ?_;rw[← zr1 (i:=i+1) oM,h2,Xf oM]
 have g4:(i:Int)+1 < xs.length:=g4;refine Dr.k<|Ob.mk ⟨oM,g4⟩<|Ob.mk ⟨oM,g4⟩ ?_;intro x hx'
 have hx0:xs[i+1]? =some x:=by
  have h:xs[((i:Int)+1).toNat]? =some x:=hx'
  rwa [show((i:Int)+1).toNat=i+1 by omega]at h
 refine Ar.o<|Ob.o4<|Ob.o4 ?_;intro z hz'
 have hz0:xs[i]? =some z:=by
  have h:xs[((i:Int)+1 - 1).toNat]? =some z:=hz'
  rwa [show((i:Int)+1 - 1).toNat=i by omega]at h
 refine⟨λk=>?_,λk=>?_⟩;rotate_left
 ·have k:¬z=x:=λh=>k (k9.2 h.symm)
  refine Ar.o<|⟨i+1,⟨oM,?_⟩,zL [0] ⟨rfl,congrArg (λn=>some (i64 n)) oM,trivial⟩ ⟨rfl,trivial⟩,by dsimp only;omega⟩;rw[zkx hz0 hx0 k,h2,zz2 hx0]
 have k:z=x:=(k9.1 k).symm;refine Sl.win (Ob.mk ⟨oM,oM,oM,oM⟩ ?_)
 refine⟨Nat×Nat×List Pt,λs=>⟨[(0,.own 0),(3,i64 (s.2.1:Int)),(4,.win 0 2 ((i:Int)+1) ((xs.length:Int) - ((i:Int)+1))),(5,i64 ((s.1:Int)+1))],[(0,.arr 35 ptE 2 s.2.2)],1,61,1⟩,
  λs=>i+1+s.1 < xs.length/\s.2.2.length=xs.length/\s.2.2.take s.2.1=dd xs (i+s.1+2)/\s.2.1=(dd xs (i+s.1+2)).length/\s.2.1<=i+1+s.1/\∀j,i+1+s.1<=j->s.2.2[j]? =xs[j]?,λs=>xs.length - s.1,(0,i+1,xs),?_,?_,?_⟩
 ·have e:=zn1 hz0 hx0 k;refine⟨by dsimp only;omega,rfl,?_,?_,by dsimp only;omega,λj _=>rfl⟩
  ·show xs.take (i+1)=dd xs (i+0+2);rw[show i+0+2=i+2 from rfl,e,h2]
  ·show i+1=(dd xs (i+0+2)).length;rw[show i+0+2=i+2 from rfl,e,h2,Xk];omega
 ·exact zL [0] ⟨rfl,congrArg (λn=>some (i64 n)) (show((i+1:Nat):Int)=(i:Int)+1 by omega).symm,rfl,rfl,trivial⟩ ⟨rfl,trivial⟩
 rintro⟨m,q,A⟩ ⟨k1,k2,k3,k4,k5,k6⟩
 dsimp only at k1 k2 k3 k4 k5 k6;refine Ob.o<|Br.mk (λg7=>?_) (λg7=>?_)
 ·have g7:(m:Int)+1 < (xs.length:Int) - ((i:Int)+1):=g7;refine Dr.k<|Ob.mk ⟨by ((try dsimp only);omega),by ((try dsimp only);omega),g7⟩<|Ob.o9 ?_;intro y hy'
  have hy0:A[i+m+2]? =some y:=by
   have h:A[((i:Int)+1+((m:Int)+1)).toNat]? =some y:=hy'
   rwa [show((i:Int)+1+((m:Int)+1)).toNat=i+m+2 by omega]at h
  have hy1:xs[i+m+2]? =some y:=by rw[← k6 _ oM];exact hy0
  refine Ar.o<|Ob.o23<|Ob.o9 ?_;intro u hu'
  have hu0:A[i+m+1]? =some u:=by
   have h:A[((i:Int)+1+((m:Int)+1 - 1)).toNat]? =some u:=hu'
   rwa [show((i:Int)+1+((m:Int)+1 - 1)).toNat=i+m+1 by omega]at h
  have hu1:xs[i+m+1]? =some u:=by rw[← k6 _ oM];exact hu0
  refine⟨λd=>?_,λd=>?_⟩
  ·have d:¬u=y:=λh=>d (k9.2 h.symm)
   have e:=zkx hu1 hy1 d;refine Ob.mk ⟨by ((try dsimp only);omega),by ((try dsimp only);omega),g7⟩<|Ob.o9 ?_;intro y' hy''
   have ey:y'=y:=by
    have h:A[((i:Int)+1+((m:Int)+1)).toNat]? =some y':=hy'';rw[show((i:Int)+1+((m:Int)+1)).toNat=i+m+2 by omega,hy0]at h;exact(Xi h).symm
   rw[ey];refine Ob.o9<|Ob.o9 ?_;intro t _;refine⟨y,rfl,?_⟩;refine Ar.fit (by (try dsimp only);omega)<|Ar.o ?_;have hq:((q:Int)).toNat=q:=XW q
   refine⟨(m+1,q+1,A.set q y),⟨by dsimp only;omega,by rw[X0];exact k2,?_,?_,by dsimp only;omega,λj hj=>?_⟩,
    zL [0] ⟨rfl,congrArg (λn=>some (i64 n)) (by (try dsimp only);omega),rfl,congrArg (λn=>some (i64 n)) (by (try dsimp only);omega),trivial⟩ ⟨congrArg (λa=>some (Mem.arr 35 ptE 2 a)) (by rw[hq]),trivial⟩,by dsimp only;omega⟩
   ·show(A.set q y).take (q+1)=dd xs (i+m+1+2);rw[e,← k3];have hlt:q < (A.set q y).length:=by rw[X0];omega
    rw[Xm,Q0 (Xh q),List.getElem?_set_self oM];rfl
   ·show q+1=(dd xs (i+m+1+2)).length;rw[e,Xj,← k4];rfl
   ·show(A.set q y)[j]? =xs[j]?;have hj:i+1+(m+1)<=j:=hj;rw[List.getElem?_set_ne oM];exact k6 j oM
  ·have d:u=y:=(k9.1 (Xa.1 d)).symm;have e:=zn1 hu1 hy1 d;refine Ar.o ?_
   refine⟨(m+1,q,A),⟨by dsimp only;omega,k2,?_,?_,by dsimp only;omega,λj hj=>k6 j (by dsimp only at hj;omega)⟩,
    zL [0] ⟨rfl,rfl,rfl,congrArg (λn=>some (i64 n)) oM,trivial⟩ ⟨rfl,trivial⟩,by dsimp only;omega⟩
   ·show A.take q=dd xs (i+m+1+2);rw[e];exact k3
   ·show q=(dd xs (i+m+1+2)).length;rw[e];exact k4
 ·have g7:¬(m:Int)+1 < (xs.length:Int) - ((i:Int)+1):=g7;refine Sl.win (Ob.mk ⟨by ((try dsimp only);omega),by ((try dsimp only);omega),by ((try dsimp only);omega),by ((try dsimp only);omega)⟩ ?_);refine⟨zp,rfl,Ob.o23 ?_⟩;have hq:((q:Int)).toNat=q:=XW q
  have hl:(A.take (q:Int).toNat++(List.replicate ((A.length:Int) - (q:Int)).toNat zp++A.drop ((q:Int).toNat+((A.length:Int) - (q:Int)).toNat))).length=A.length:=by
   simp only[Xj,Xk,Kh,XQ];omega
  refine Sl.keep (Ob.mk ⟨rfl,by ((try dsimp only);omega),by ((try dsimp only);rw[hl];omega)⟩ ?_);refine z9 ?_;dsimp only;rw[← zr1 (i:=i+m+2) oM,← k3,hq,KE (by rw[Xk];omega),Xf (by rw[Xk];omega)]
variable{p:Pl}
theorem zfw(h:p.cl=true):(zu p).pts=qm (jd p.pts):=by unfold zu;dsimp only;rw[if_pos h]
theorem zky(h:¬p.cl=true):(zu p).pts=jd p.pts:=by unfold zu;dsimp only;rw[if_neg h]
theorem zhz(l:List Pt):(jd l).length<=l.length:=by
 rw[← zqe];have:=vA l []
 simpa using this
theorem zn2(h:(zu p).pts=q):LE (.agg [.sl ptE q,pr (p.cl=true)]) (.agg (plE (zu p))):=by
 subst h;exact .refl
theorem zgy(p:Pl)(hp:p.pts.length<=4096):CG0 186 [.agg (plE p)] [] (.agg (plE (zu p))) []:=by
 refine zc Tryz.func186 ?_;refine zb.fresh _ _ (znK p.pts hp) rfl (λ_ _=>rfl) (.inr (λ_ _=>rfl))<|zb.give [2] 0 [.own 0] [(0,.arr 35 ptE 2 p.pts)] [] (.sl ptE (jd p.pts)) (zvc p.pts hp) LEs.refl rfl rfl rfl ⟨⟨_,rfl,rfl,trivial⟩,trivial⟩ rfl trivial ?_;have hd:=zhz p.pts
 refine⟨List Pt,λq=>⟨[(1,.loc 0 0),(2,.loc 1 0),(3,.sl ptE q)],[(0,.box 118 [.sl ptE p.pts,pr (p.cl=true)]),(1,.box 118 [.val (.slice none 0 0),.val (.bool false)])],2,36,0⟩,
  λq=>qm q=qm (jd p.pts)/\jI q/\q.length<=4096/\(¬p.cl=true->q=jd p.pts),λq=>q.length,jd p.pts,?_,?_,?_⟩
 ·exact⟨rfl,ug _,oM,λ_=>rfl⟩
 ·exact zf [0,1]
 rintro q ⟨t1,t2,t3,t4⟩
 refine Dr.k<|Br.mk (λc=>?_) (λc=>?_);rotate_left
 ·have c:¬p.cl=true:=c;exact zn2 (by rw[zky c,t4 c])
 have c:p.cl=true:=c;have fin:qm q=q->LE (.agg [.sl ptE q,pr (p.cl=true)]) (.agg (plE (zu p))):=λh=>zn2 (by rw[zfw c,← t1,h])
 intro hl1;refine⟨λm=>?_,λm=>?_⟩;rotate_left
 ·have m:¬(1:Int) < q.length:=m;exact fin (zgw oM)
 have m:(1:Int) < q.length:=m;intro hl2;refine Ar.o<|Ob.o ?_;intro z hz
 have hz:q[q.length - 1]? =some z:=by
  have hz:q[((q.length:Int) - 1).toNat]? =some z:=hz
  rwa [show((q.length:Int) - 1).toNat=q.length - 1 by omega]at hz
 refine Ob.o ?_;intro f hf;have hf:q[0]? =some f:=hf;refine⟨λk=>?_,λk=>?_⟩
 ·have k:z=f:=k9.1 k;have et:=zgv (show 1 < q.length by omega) hz hf k;intro hl4;refine Ar.o<|Ob.mk ⟨⟨dC,oM,oM,oM⟩,λ_ _=>rfl⟩<|⟨q.take (q.length - 1),⟨?_,?_,?_,λh=>absurd c h⟩,zL [0,1] ⟨rfl,rfl,congrArg (λq=>some (SV.sl ptE q)) (by rw[show((q.length:Int) - 1 - 0).toNat=q.length - 1 by omega];rfl),trivial⟩ ⟨rfl,rfl,trivial⟩,?_⟩
  ·rw[← et,zhy t2,t1]
  ·rw[← et];exact zbe t2
  ·rw[Xk];omega
  ·show(q.take (q.length - 1)).length < q.length;rw[Xk];omega
 ·have k:¬z=f:=λh=>k (k9.2 h)
  exact fin (ziP hz hf k)
theorem ziQ(p:Pl)(hp:p.pts.length<=4096):CG0 131 [.agg (plE p)] [] (.agg (plE (zu p))) []:=by
 refine zcM 1 tok mix Tryz.func131 rfl rfl rfl<|⟨Pt,ptE,[],rfl,Ob.o2 ?_⟩
 refine⟨Nat,λi=>⟨[(1,.loc 0 0),(2,.loc 1 0),(3,.loc 2 0),(4,i64 (i:Int))],
   [(0,.box 118 [.sl ptE p.pts,pr (p.cl=true)]),(1,.box 118 [.val (.slice none 0 0),.val (.bool false)]),(2,.box 118 [.own 3,pr (p.cl=true)]),(3,.arr 35 ptE 2 (dd p.pts i))],4,74,0⟩,
  λi=>i<=p.pts.length,λi=>p.pts.length - i,0,?_,?_,?_⟩
 ·exact Xe _
 ·exact zf [0,1,3,2]
 rintro i hi
 have dl:=zCE p.pts i;intro hl1;refine⟨λg=>?_,λg=>?_⟩
 ·have g:(i:Int) < p.pts.length:=g;obtain⟨x,hx⟩:∃x,p.pts[i]? =some x:=⟨_,Xb oM⟩;have same:∀{y:Pt},p.pts[(i:Int).toNat]? =some y->y=x:=λh=>Xi ((show p.pts[i]? =some _ from h).symm.trans hx)
  refine Dr.d<|Br.mk (λz=>?_) (λz=>?_)
  ·have z:(i:Int)=0:=z;refine Ob.mk (by kernel_rfl)<|Dr.d<|Ob.o ?_;intro y hy;rw[same hy];refine⟨Pt,ptE,[x],rfl,Ob.o0 ?_⟩;refine⟨[x],rfl,Ob.o3 ?_⟩;refine Ob.mk (by kernel_rfl)<|Ar.o ?_;have i0:i=0:=oM;subst i0;refine⟨1,oM,zC [0,1,2,5] ⟨rfl,rfl,rfl,congrArg (λq=>some (Mem.arr 35 ptE 2 q)) ?_,trivial⟩,by dsimp only;omega⟩;rw[zgx hx];rfl
  have z:¬(i:Int)=0:=z;obtain⟨n,rfl⟩:∃n,i=n+1:=⟨i - 1,oM⟩;refine Ob.o ?_;intro y hy;rw[same hy];refine Ar.o<|Ob.o ?_;intro u hu
  have hu:p.pts[n]? =some u:=by
   have h:p.pts[(((n+1:Nat):Int) - 1).toNat]? =some u:=hu
   rwa [show(((n+1:Nat):Int) - 1).toNat=n by omega]at h
  refine Ob.mk (by kernel_rfl)<|⟨λk=>?_,λk=>?_⟩
  ·have k:¬u=x:=λh=>k (k9.2 h.symm)
   refine Dr.d<|Ob.o ?_;intro y hy;rw[same hy];refine⟨Pt,ptE,[x],rfl,Ob.o0 ?_⟩;refine⟨[x],rfl,Ob.o3 ?_⟩;refine Ob.mk (by kernel_rfl)<|Ar.o<|⟨n+2,oM,zL [0,1,2,5] ⟨rfl,rfl,rfl,congrArg (λn=>some (i64 n)) oM,trivial⟩ ⟨rfl,rfl,rfl,congrArg (λq=>some (Mem.arr 35 ptE 2 q)) ?_,trivial⟩,by dsimp only;omega⟩;rw[zkx hu hx k]
  ·have k:u=x:=(k9.1 (Xa.1 k)).symm;refine Ar.o<|⟨n+2,oM,zL [0,1,2,3] ⟨rfl,rfl,rfl,congrArg (λn=>some (i64 n)) oM,trivial⟩ ⟨rfl,rfl,rfl,congrArg (λq=>some (Mem.arr 35 ptE 2 q)) ?_,trivial⟩,by dsimp only;omega⟩;rw[zn1 hu hx k]
 have g:¬(i:Int) < p.pts.length:=g;have hd:=zhz p.pts
 refine⟨List Pt,λq=>⟨[(1,.loc 0 0),(2,.loc 1 0),(3,.loc 2 0)],
   [(0,.box 118 [.sl ptE p.pts,pr (p.cl=true)]),(1,.box 118 [.val (.slice none 0 0),.val (.bool false)]),(2,.box 118 [.own 3,pr (p.cl=true)]),(3,.arr 35 ptE 2 q)],4,74,0⟩,
  λq=>qm q=qm (jd p.pts)/\jI q/\q.length<=4096/\(¬p.cl=true->q=jd p.pts),λq=>q.length,jd p.pts,?_,?_,?_⟩
 ·exact⟨rfl,ug _,oM,λ_=>rfl⟩
 ·exact zC [0,1,2,3] ⟨rfl,rfl,rfl,congrArg (λq=>some (Mem.arr 35 ptE 2 q)) (zr1 oM),trivial⟩
 rintro q ⟨t1,t2,t3,t4⟩
 refine Dr.d<|Br.mk (λc=>?_) (λc=>?_);rotate_left
 ·have c:¬p.cl=true:=c;exact Ob.mk (by kernel_rfl)<|zn2 (by rw[zky c,t4 c])
 have c:p.cl=true:=c;have fin:qm q=q->LE (.agg [.sl ptE q,pr (p.cl=true)]) (.agg (plE (zu p))):=λh=>zn2 (by rw[zfw c,← t1,h])
 intro hl1;refine⟨λm=>?_,λm=>?_⟩;rotate_left
 ·have m:¬(1:Int) < q.length:=m;exact Ob.mk (by kernel_rfl)<|fin (zgw oM)
 have m:(1:Int) < q.length:=m;intro hl2;refine Ar.o<|Ob.o<|Ob.o ?_;intro z hz
 have hz:q[q.length - 1]? =some z:=by
  have hz:q[((q.length:Int) - 1).toNat]? =some z:=hz
  rwa [show((q.length:Int) - 1).toNat=q.length - 1 by omega]at hz
 refine Ob.o<|Ob.o ?_;intro f hf;have hf:q[0]? =some f:=hf;refine Ob.mk (by kernel_rfl)<|⟨λk=>?_,λk=>?_⟩
 ·have k:z=f:=k9.1 k;have et:=zgv (show 1 < q.length by omega) hz hf k;intro hl4;refine Ar.o<|Sl.keep (Ob.mk ⟨rfl,oM,oM⟩ ?_);refine⟨q.take (q.length - 1),⟨?_,?_,?_,λh=>absurd c h⟩,zC [0,1,2,4] ⟨rfl,rfl,rfl,congrArg (λq=>some (Mem.arr 35 ptE 2 q)) (by rw[show((q.length:Int) - 1).toNat=q.length - 1 by omega]),trivial⟩,?_⟩
  ·rw[← et,zhy t2,t1]
  ·rw[← et];exact zbe t2
  ·rw[Xk];omega
  ·show(q.take (q.length - 1)).length < q.length;rw[Xk];omega
 ·have k:¬z=f:=λh=>k (k9.2 h)
  exact fin (ziP hz hf k)
theorem zBl(a b:Pt)(p:Pen):CG0 312 [.agg (jo p),.agg (ptE a),.agg (ptE b)] [] (.sl ptE (y9 a b p)) []:=by
 refine zc Tryz.func312 ?_;refine⟨λh=>?_,λh=>?_⟩
 ·have h:p.c=5:=h;exact zb.t (p_cap a b p.w)<|z9 (by unfold y9;rw[if_pos h])
 have h:¬p.c=5:=h;refine⟨λk=>?_,λk=>?_⟩
 ·have k:p.c=3:=k;exact zb.t (zrS b p.w)<|z9 (by unfold y9;rw[if_neg h,if_pos k])
 have k:¬p.c=3:=k;have e:y9 a b p=[]:=by unfold y9;rw[if_neg h,if_neg k]
 rw[e];exact zD
theorem zx4(a:Pt)(p:Pen):CG0 308 [.agg (ptE a),.agg (jo p)] [] (.sl ptE (zba a p)) []:=by
 refine zc Tryz.func308 ?_;refine⟨λh=>?_,λh=>?_⟩
 ·have h:p.c=5:=h;exact zb.t (zCk a p.w)<|z9 (by unfold zba;rw[if_pos h])
 have h:¬p.c=5:=h;refine⟨λk=>?_,λk=>?_⟩
 ·have k:p.c=3:=k;exact zb.t (zrS a p.w)<|z9 (by unfold zba;rw[if_neg h,if_pos k])
 have k:¬p.c=3:=k;have e:zba a p=[]:=by unfold zba;rw[if_neg h,if_neg k]
 rw[e];exact zD
theorem zx5(a b:Pt)(p:Pen):CG0 257 [.agg (ptE a),.agg (ptE b),.agg (jo p)] [] (.sl ptE (y9 a b p)) []:=by
 refine zc Tryz.func257 ?_;refine⟨λh=>?_,λh=>?_⟩
 ·have h:p.c=5:=h;exact zb.t (r_cap a b p.w)<|z9 (by unfold y9;rw[if_pos h])
 have h:¬p.c=5:=h;refine⟨λk=>?_,λk=>?_⟩
 ·have k:p.c=3:=k;exact zb.t (zrR b p.w)<|z9 (by unfold y9;rw[if_neg h,if_pos k])
 have k:¬p.c=3:=k;have e:y9 a b p=[]:=by unfold y9;rw[if_neg h,if_neg k]
 rw[e];exact zD
theorem zx6(a:Pt)(p:Pen):CG0 256 [.agg (ptE a),.agg (jo p)] [] (.sl ptE (zba a p)) []:=by
 refine zc Tryz.func256 ?_;refine⟨λh=>?_,λh=>?_⟩
 ·have h:p.c=5:=h;exact zb.t (zCl a p.w)<|z9 (by unfold zba;rw[if_pos h])
 have h:¬p.c=5:=h;refine⟨λk=>?_,λk=>?_⟩
 ·have k:p.c=3:=k;exact zb.t (zrR a p.w)<|z9 (by unfold zba;rw[if_neg h,if_pos k])
 have k:¬p.c=3:=k;have e:zba a p=[]:=by unfold zba;rw[if_neg h,if_neg k]
 rw[e];exact zD
theorem qy{j:Nat}(h:l[j]? =some x):x=nth l j:=by
 unfold nth;rw[Xt,h];rfl
theorem zr2(l:List Pt)(i:Int)(j:Nat)(hl:0 < l.length/\l.length<=4096)(hi: -1<=i/\i<=l.length)(hj:((i+l.length) % l.length).toNat=j):
  CG0 309 [i64 i,.ptr [.sl ptE l],.ptr [i64 (l.length:Int)]] [] (.agg (ptE (nth l j))) []:=by
 refine zc Tryz.func309 ?_;have m1:=Kv (i+l.length) (show(l.length:Int)≠0 by omega);have m2:=X8 (i+l.length) (show 0 < (l.length:Int) by omega);refine Dr.k<|Ar.o<|Dv.pos ⟨oM,oM⟩<|Ob.mk ⟨m1,m2⟩ ?_;intro x hx;have hx:l[j]? =some x:=by rw[← hj];exact hx
 rw[qy hx];exact .refl
def uz(out rs:List (List Pt)):List (List Pt):=out++rs.filter λr=>decide (0 < r.length)
theorem zqf(out:List (List Pt))(r:List Pt):uz out [r]=out++kS r:=by
 unfold uz kS
 cases r with
 | nil=>rfl
 | cons a b=>rfl
theorem zx7(out:List (List Pt))(r s:List Pt):uz out [r,s]=out++kS r++kS s:=by
 unfold uz kS
 cases r <;> cases s <;> simp
theorem zeA{out rs:List (List Pt)}{i:Nat}{x:List Pt}(h:rs[i]? =some x):uz out (rs.take (i+1))=if 0 < x.length then uz out (rs.take i)++[x] else uz out (rs.take i):=by
 unfold uz;rw[Xm,h]
 by_cases c:0 < x.length
 ·rw[if_pos c];simp[c]
 ·rw[if_neg c];simp[c]
theorem zgz(out rs:List (List Pt)):(uz out rs).length<=out.length+rs.length:=by
 unfold uz;rw[Xj];have:=QF (λr:List Pt=>decide (0 < r.length)) rs;omega
theorem zqg{out rs:List (List Pt)}(h:∀r∈rs,0 < r.length):uz out rs=out++rs:=by
 unfold uz;congr 1;exact List.filter_eq_self.2 λr hr=>decide_eq_true (h r hr)
variable{r:List Pt}
theorem zcb(h:q∈kS r):0 < q.length:=by
 unfold kS at h
 split at h
 ·cases h
 ·rename_i k;rw[Xq.1 h];exact X5 λe=>k (Xn e)
variable{a:Pt}{b:Pt}
theorem zn3{v:Pt}{p:Pen}:∀r∈ji a v b p,0 < r.length:=by
 intro r hr;unfold ji at hr
 split at hr
 ·cases hr
 ·split at hr
  ·exact zcb hr
  ·split at hr
   ·cases hr
   ·exact zcb hr
theorem zCG(rs:List (List Pt))(hr:rs.length<=4):CG0 307 [.own 1,.loc 0 0] [(0,.box 30 [.val (.slice none 0 0)]),(1,.arr 72 zh 1 rs)] (.tup []) [(0,.box 30 [.own 2]),(2,.arr 72 zh 1 (uz [] rs))]:=by
 refine u4 tok mix Tryz.func307 rfl rfl rfl ?_;intro hl1;refine⟨Nat,λi=>⟨[(1,.loc 0 0),(5,.own 1),(6,i64 (rs.length:Int)),(7,i64 (i:Int))],[(0,.box 30 [.own 2]),(2,.arr 72 zh 1 (uz [] (rs.take i))),(1,.arr 72 zh 1 rs)],3,19,2⟩,λi=>i<=rs.length,λi=>rs.length - i,0,?_,?_,?_⟩
 ·exact Xe _
 ·exact zE [(0,some 0),(1,some 1),(2,none)]
 rintro i hi
 have pl:=zgz ([]:List (List Pt)) (rs.take i);rw[Xk]at pl;refine⟨λg=>?_,λg=>?_⟩
 ·have g:(i:Int) < rs.length:=g;refine Ob.o<|Ob.o ?_;intro x hx;have hx:rs[i]? =some x:=hx;have e:=zeA (out:=([]:List (List Pt))) hx;intro hl3;refine⟨λk=>?_,λk=>?_⟩
  ·have k:(0:Int) < x.length:=k;rw[if_pos oM]at e;refine⟨List Pt,zh,[x],rfl,Ob.o0 ?_⟩;refine⟨[x],rfl,Ob.mk ⟨(by show _*(24:Int)<=_;simp only[Xl,Xs]at pl ⊢;omega),(by simp only[Xl,Xs]at pl ⊢;omega),dC,λ_ _=>rfl⟩ ?_⟩;exact Ar.o<|⟨i+1,oM,zC [0,1,4] ⟨rfl,congrArg (λq=>some (Mem.arr 72 zh 1 q)) e.symm,rfl,trivial⟩,by dsimp only;omega⟩
  ·have k:¬(0:Int) < x.length:=k;rw[if_neg oM]at e;exact Ar.o<|⟨i+1,oM,zC [0,1,2] ⟨rfl,congrArg (λq=>some (Mem.arr 72 zh 1 q)) e.symm,rfl,trivial⟩,by dsimp only;omega⟩
 ·have g:¬(i:Int) < rs.length:=g;exact⟨⟨[],[(0,.box 30 [.own 2]),(2,.arr 72 zh 1 (uz [] rs))],3,19,2⟩,zC [0,1,2] ⟨rfl,congrArg (λq=>some (Mem.arr 72 zh 1 (uz [] q))) (Xf oM),trivial⟩,rfl,.refl⟩
theorem zx8(out rs:List (List Pt))(ho:out.length<=100000)(hr:rs.length<=4):CG0 307 [.own 2,.loc 0 0] [(0,.box 30 [.own 1]),(1,.arr 72 zh 1 out),(2,.arr 72 zh 1 rs)] (.tup []) [(0,.box 30 [.own 3]),(3,.arr 72 zh 1 (uz out rs))]:=by
 refine u4 tok mix Tryz.func307 rfl rfl rfl ?_;intro hl1;refine⟨Nat,λi=>⟨[(1,.loc 0 0),(5,.own 2),(6,i64 (rs.length:Int)),(7,i64 (i:Int))],[(0,.box 30 [.own 3]),(3,.arr 72 zh 1 (uz out (rs.take i))),(2,.arr 72 zh 1 rs)],4,19,3⟩,λi=>i<=rs.length,λi=>rs.length - i,0,?_,?_,?_⟩
 ·exact Xe _
 ·exact zC [0,1,2,1] ⟨rfl,congrArg (λq=>some (Mem.arr 72 zh 1 q)) (Xy out).symm,rfl,trivial⟩
 rintro i hi
 have pl:=zgz out (rs.take i);rw[Xk]at pl;refine⟨λg=>?_,λg=>?_⟩
 ·have g:(i:Int) < rs.length:=g;refine Ob.o<|Ob.o ?_;intro x hx;have hx:rs[i]? =some x:=hx;have e:=zeA (out:=out) hx;intro hl3;refine⟨λk=>?_,λk=>?_⟩
  ·have k:(0:Int) < x.length:=k;rw[if_pos oM]at e;refine⟨List Pt,zh,[x],rfl,Ob.o0 ?_⟩;refine⟨[x],rfl,Ob.mk ⟨(by show _*(24:Int)<=_;simp only[Xl,Xs]at pl ⊢;omega),(by simp only[Xl,Xs]at pl ⊢;omega),dC,λ_ _=>rfl⟩ ?_⟩;exact Ar.o<|⟨i+1,oM,zC [0,1,2,5] ⟨rfl,congrArg (λq=>some (Mem.arr 72 zh 1 q)) e.symm,rfl,trivial⟩,by dsimp only;omega⟩
  ·have k:¬(0:Int) < x.length:=k;rw[if_neg oM]at e;exact Ar.o<|⟨i+1,oM,zC [0,1,2,3] ⟨rfl,congrArg (λq=>some (Mem.arr 72 zh 1 q)) e.symm,rfl,trivial⟩,by dsimp only;omega⟩
 ·have g:¬(i:Int) < rs.length:=g;exact⟨⟨[],[(0,.box 30 [.own 3]),(3,.arr 72 zh 1 (uz out rs))],4,19,3⟩,zC [0,1,2,3] ⟨rfl,congrArg (λq=>some (Mem.arr 72 zh 1 (uz out q))) (Xf oM),trivial⟩,rfl,.refl⟩
theorem zCH(out rs:List (List Pt))(ho:out.length<=100000)(hr:rs.length<=4):CG0 307 [.sl zh rs,.loc 0 0] [(0,.box 30 [.own 1]),(1,.arr 72 zh 1 out)] (.tup []) [(0,.box 30 [.own 2]),(2,.arr 72 zh 1 (uz out rs))]:=by
 refine u4 tok mix Tryz.func307 rfl rfl rfl ?_;intro hl1;refine⟨Nat,λi=>⟨[(1,.loc 0 0),(5,.sl zh rs),(6,i64 (rs.length:Int)),(7,i64 (i:Int))],[(0,.box 30 [.own 2]),(2,.arr 72 zh 1 (uz out (rs.take i)))],3,19,2⟩,λi=>i<=rs.length,λi=>rs.length - i,0,?_,?_,?_⟩
 ·exact Xe _
 ·exact zC [0,1,1] ⟨rfl,congrArg (λq=>some (Mem.arr 72 zh 1 q)) (Xy out).symm,trivial⟩
 rintro i hi
 have pl:=zgz out (rs.take i);rw[Xk]at pl;refine⟨λg=>?_,λg=>?_⟩
 ·have g:(i:Int) < rs.length:=g;refine Ob.o ?_;intro x hx;have hx:rs[i]? =some x:=hx;have e:=zeA (out:=out) hx;intro hl3;refine⟨λk=>?_,λk=>?_⟩
  ·have k:(0:Int) < x.length:=k;rw[if_pos oM]at e;refine⟨List Pt,zh,[x],rfl,Ob.o0 ?_⟩;refine⟨[x],rfl,Ob.mk ⟨(by show _*(24:Int)<=_;simp only[Xl,Xs]at pl ⊢;omega),(by simp only[Xl,Xs]at pl ⊢;omega),dC,λ_ _=>rfl⟩ ?_⟩;exact Ar.o<|⟨i+1,oM,zC [0,1,4] ⟨rfl,congrArg (λq=>some (Mem.arr 72 zh 1 q)) e.symm,trivial⟩,by dsimp only;omega⟩
  ·have k:¬(0:Int) < x.length:=k;rw[if_neg oM]at e;exact Ar.o<|⟨i+1,oM,zC [0,1,2] ⟨rfl,congrArg (λq=>some (Mem.arr 72 zh 1 q)) e.symm,trivial⟩,by dsimp only;omega⟩
 ·have g:¬(i:Int) < rs.length:=g;exact⟨⟨[],[(0,.box 30 [.own 2]),(2,.arr 72 zh 1 (uz out rs))],3,19,2⟩,zC [0,1,2] ⟨rfl,congrArg (λq=>some (Mem.arr 72 zh 1 (uz out q))) (Xf oM),trivial⟩,rfl,.refl⟩
theorem zhA(out:List (List Pt))(r:List Pt)(ho:out.length<=100000):CG0 255 [.own 0,.sl ptE r] [(0,.arr 72 zh 1 out)] (.own 1) [(1,.arr 72 zh 1 (out++kS r))]:=by
 refine u4 tok mix Tryz.func255 rfl rfl rfl ?_;intro hl1;refine⟨λk=>?_,λk=>?_⟩
 ·have k:(r.length:Int)=0:=k;have e:out++kS r=out:=by rw[Xn (show r.length=0 by omega)];unfold kS;rw[if_pos rfl,Xy]
  rw[e];exact⟨⟨[(4,.own 1)],[(1,.arr 72 zh 1 out)],2,13,1⟩,zf [0,0],rfl,.refl⟩
 ·have k:¬(r.length:Int)=0:=k;have e:out++kS r=out++[r]:=by unfold kS;rw[if_neg (λh=>k (by rw[h];rfl))]
  rw[e];refine⟨List Pt,zh,[r],rfl,Ob.o0 ?_⟩;refine⟨[r],rfl,Ob.o15 ?_⟩;exact⟨⟨[(4,.own 1)],[(1,.arr 72 zh 1 (out++[r]))],2,13,1⟩,zf [0,2],rfl,.refl⟩
theorem zz3(p:Pt):CG0 251 [.agg (ptE p)] [] (pr (¬zn p)) []:=by
 refine zc Tryz.func251 ?_;exact zb.t (qh p)<|zF K7
theorem zx9(F:FuncId)(hF:∀p,CG0 F [.agg (ptE p)] [] (pr (¬zn p)) [])(xs:List Pt):CG0 200 [.sl ptE xs,.fn F []] [] (i64 (zib xs)) []:=by
 refine zc Tryz.func200 ?_;intro hl0;refine⟨Int,λi=>⟨[(8,i64 i),(7,i64 xs.length),(0,.sl ptE xs),(1,.fn F [])],[],0,19,0⟩,λi=>0<=i/\i<=xs.length/\∀(j:Nat) q,(j:Int) < i->xs[j]? =some q->zn q,λi=>((xs.length:Int) - i).toNat,0,?_,?_,?_⟩
 ·exact⟨oM,oM,λj q hj=>by omega⟩
 ·exact zE []
 rintro i ⟨h1,h2,h3⟩
 refine⟨λh4=>?_,λh4=>?_⟩
 ·refine Ob.o ?_;intro x hx;refine zb.t (hF x)<|⟨λh5=>?_,λh5=>?_⟩
  ·refine zj ?_;rw[zpF (i:=i.toNat) (λj q hj=>h3 j q oM) hx h5];omega
  ·refine Ar.o<|⟨i+1,⟨oM,oM,λj q hj hq=>?_⟩,zE [],by dsimp only;omega⟩
   by_cases e:j=i.toNat
   ·subst e;rw[hx]at hq;cases hq;exact Xa.1 h5
   ·exact h3 j q oM hq
 ·refine zj (zfm λp hp=>?_).symm;obtain⟨j,hj,he⟩:=Ka hp;exact h3 j p oM (by rw[← he];exact Xb hj)
theorem zqh(F:FuncId)(hF:∀p,CG0 F [.agg (ptE p)] [] (pr (¬zn p)) [])(xs:List Pt):CG0 137 [.sl ptE xs,.fn F []] [] (pr (¬∀p∈xs,zn p)) []:=by
 refine zc Tryz.func137 ?_;exact zb.t (zx9 F hF xs)<|zF zgl
def vK(rs:List (List Pt)):Prop:=∀r∈rs,∀p∈r,zn p
instance (rs:List (List Pt)):Decidable (vK rs):=inferInstanceAs (Decidable (∀_∈_,_))
def ptsE(rs:List (List Pt)):SV:=.tup [i64 (if vK rs then(qi rs:Int) else 0),pr (vK rs)]
theorem zkz(rs:List (List Pt))(hs:(qi rs:Int)<=4611686018427387904):CG0 190 [.sl zh rs] [] (ptsE rs) []:=by
 refine zc Tryz.func190 ?_;intro hl1;refine⟨Nat,λi=>⟨[(4,i64 (qi (rs.take i):Int)),(7,.sl zh rs),(8,i64 (rs.length:Int)),(9,i64 (i:Int))],[],0,21,0⟩,λi=>i<=rs.length/\vK (rs.take i),λi=>rs.length - i,0,?_,?_,?_⟩
 ·exact⟨Xe _,λr hr=>by cases hr⟩
 ·exact zE []
 rintro i ⟨h1,h2⟩
 refine⟨λg=>?_,λg=>?_⟩
 ·have g:(i:Int) < rs.length:=g;refine Ob.o ?_;intro x hx;have hx:rs[i]? =some x:=hx;refine zb.t (zqh 251 zz3 x)<|⟨λk=>?_,λk=>?_⟩
  ·have k:¬vK rs:=λh=>k (h x (Xd hx))
   refine zI (zj (by rw[if_neg k])) (zd k)
  ·have k:∀p∈x,zn p:=Xa.1 k;intro hl4;have c1:=vk hx;have c2:=zbB rs (i+1);(iterate 2 refine Ar.o ?_);refine⟨i+1,⟨oM,zcK hx h2 k⟩,jL [] ⟨congrArg (λn=>some (i64 n)) oM,rfl,rfl,rfl,trivial⟩ trivial,by dsimp only;omega⟩
 ·have g:¬(i:Int) < rs.length:=g;rw[Xf oM]at h2;have e:qi (rs.take i)=qi rs:=by rw[Xf oM]
  exact zI (zj (by rw[if_pos h2,e])) (zR h2)
theorem zqi(l:List Pt):CG0 197 [.sl ptE l] [] (pr (∀p∈l,zn p)) []:=by
 refine zc Tryz.func197 ?_;refine⟨Nat,λi=>⟨[(0,.sl ptE l),(3,i64 (i:Int))],[],0,16,0⟩,λi=>i<=l.length/\∀p∈l.take i,zn p,λi=>l.length - i,0,?_,?_,?_⟩
 ·exact⟨Xe _,λp hp=>by cases hp⟩
 ·exact zE []
 rintro i ⟨h1,h2⟩
 intro hl1;refine⟨λg=>?_,λg=>?_⟩
 ·have g:(i:Int) < l.length:=g;refine Ob.o ?_;intro x hx;have hx:l[i]? =some x:=hx;refine zb.t (kK x)<|⟨λb=>zd λk=>b (k x (Xd hx)),λb=>?_⟩;have b:=Xa.1 b;refine Ar.o<|⟨i+1,⟨oM,λp hp=>?_⟩,zE [],by dsimp only;omega⟩;rw[Xm,hx]at hp
  rcases Xo.1 hp with hp | hp
  ·exact h2 p hp
  ·simp at hp;rw[hp];exact b
 ·have g:¬(i:Int) < l.length:=g;rw[Xf oM]at h2;exact zR h2
theorem ztA(rs:List (List Pt))(hs:(qi rs:Int)<=4611686018427387904):CG0 134 [.sl zh rs] [] (i64 (qi rs:Int)) []:=by
 refine zc Tryz.func134 ?_;refine⟨Nat,λi=>⟨[(0,.sl zh rs),(3,i64 (qi (rs.take i):Int)),(4,i64 (i:Int))],[],0,19,0⟩,λi=>i<=rs.length,λi=>rs.length - i,0,?_,?_,?_⟩
 ·exact Xe _
 ·exact zE []
 rintro i h1
 intro hl1;refine⟨λg=>?_,λg=>?_⟩
 ·have g:(i:Int) < rs.length:=g;refine Ob.o ?_;intro x hx;have hx:rs[i]? =some x:=hx;intro hl4;have c1:=vk hx;have c2:=zbB rs (i+1);(iterate 2 refine Ar.o ?_);refine⟨i+1,oM,jL [] ⟨rfl,congrArg (λn=>some (i64 n)) oM,rfl,trivial⟩ trivial,by dsimp only;omega⟩
 ·have g:¬(i:Int) < rs.length:=g;exact zj (by rw[Xf oM])
theorem vB(r:List Pt):(kS r).length<=1:=by unfold kS;split <;> simp
def zdW(l:List Pt)(w:Int)(n:Nat):List (List Pt):=(List.range n).flatMap λi=>kS (yb (nth l i) (nth l (i+1)) w)
theorem zhB(l:List Pt)(w:Int)(n:Nat):zdW l w (n+1)=zdW l w n++kS (yb (nth l n) (nth l (n+1)) w):=by
 unfold zdW;rw[Qb,Qc,Ji]
theorem zqj(l:List Pt)(w:Int)(n:Nat):(zdW l w n).length<=n:=by
 induction n with
 | zero=>exact Xh 0
 | succ n ih=>
  rw[zhB,Xj];have:=vB (yb (nth l n) (nth l (n+1)) w);omega
theorem vX(p:Pl)(pen:Pen):kZ p pen=zdW p.pts pen.w (p.pts.length - 1)++
  (if p.cl=true/\1 < p.pts.length then kS (yb (nth p.pts (p.pts.length - 1)) (nth p.pts 0) pen.w) else[]):=rfl
theorem zfx(p:Pl)(pen:Pen):(kZ p pen).length<=p.pts.length+1:=by
 rw[vX,Xj];have h1:=zqj p.pts pen.w (p.pts.length - 1);have h2:=vB (yb (nth p.pts (p.pts.length - 1)) (nth p.pts 0) pen.w)
 split
 ·omega
 ·rw[Xs];omega
theorem zya(p:Pl)(pen:Pen)(hp:p.pts.length<=4096):CG0 253 [.agg (plE p),.agg (jo pen)] [] (.own 0) [(0,.arr 72 zh 1 (kZ p pen))]:=by
 refine qY tok mix Tryz.func253 rfl rfl rfl<|⟨List Pt,zh,[],rfl,Ob.o2 ?_⟩;intro hl1;refine⟨Nat,λi=>⟨[(2,.loc 0 0),(3,.loc 1 0),(5,.own 2),(6,i64 (p.pts.length:Int)),(7,i64 (i:Int))],[(0,.box 118 [.sl ptE p.pts,pr (p.cl=true)]),(1,.box 50 (jo pen)),(2,.arr 72 zh 1 (zdW p.pts pen.w i))],3,56,0⟩,λi=>i<=p.pts.length - 1,λi=>p.pts.length - i,0,?_,?_,?_⟩
 ·exact Xe _
 ·exact zf [0,1,2]
 rintro i hi
 have bl:=zqj p.pts pen.w i;refine Ar.o<|Br.mk (λg=>?_) (λg=>?_)
 ·have g:(i:Int)+1 < p.pts.length:=g;refine Dr.d<|Ob.o ?_;intro x hx;have hx:=qy (show p.pts[i]? =some x from hx);refine Ar.o<|Ob.o ?_;intro y hy;have hy:=qy (show p.pts[i+1]? =some y from hy);refine zb.t (zxs x y pen.w) ?_
  refine zb.give [2] 1 [.own 0,.sl ptE (yb x y pen.w)] [(0,.arr 72 zh 1 (zdW p.pts pen.w i))] [(1,.arr 72 zh 1 (zdW p.pts pen.w i++kS (yb x y pen.w)))] (.own 1) (zhA (zdW p.pts pen.w i) (yb x y pen.w) oM)
   LEs.refl rfl rfl rfl ⟨⟨_,rfl,rfl,trivial⟩,trivial⟩ rfl ⟨⟨rfl,trivial⟩,trivial⟩ ?_
  refine Ob.mk (by kernel_rfl)<|Ar.o ?_;refine⟨i+1,oM,zC [0,1,3] ⟨rfl,rfl,congrArg (λq=>some (Mem.arr 72 zh 1 q)) (by rw[zhB,← hx,← hy]),trivial⟩,by dsimp only;omega⟩
 have g:¬(i:Int)+1 < p.pts.length:=g;have ei:i=p.pts.length - 1:=oM
 have no:¬(p.cl=true/\1 < p.pts.length)->∃k,zaX k (.own 2) (.own 0)/\zwg [(0,.box 118 [.sl ptE p.pts,pr (p.cl=true)]),(1,.box 50 (jo pen)),(2,.arr 72 zh 1 (zdW p.pts pen.w i))] k (.arr 72 zh 1 (kZ p pen)):=λh=>by
  refine⟨some 2,.own _ rfl,congrArg (λq=>some (Mem.arr 72 zh 1 q)) ?_,λ_ _=>rfl⟩;rw[vX,if_neg h,ei,Xy]
 refine⟨λc=>?_,λc=>no λh=>c h.1⟩;refine⟨λc2=>?_,λc2=>no λh=>c2 (show(1:Int) < p.pts.length by have:=h.2;omega)⟩
 ·have c:p.cl=true:=c;have c2:(1:Int) < p.pts.length:=c2;refine Dr.d<|Ar.o<|Ob.o ?_;intro x hx;have hx:=qy (show p.pts[((p.pts.length:Int) - 1).toNat]? =some x from hx);refine Ob.o ?_;intro y hy;have hy:=qy (show p.pts[0]? =some y from hy);refine zb.t (zxs x y pen.w) ?_
  refine zb.give [2] 1 [.own 0,.sl ptE (yb x y pen.w)] [(0,.arr 72 zh 1 (zdW p.pts pen.w i))] [(1,.arr 72 zh 1 (zdW p.pts pen.w i++kS (yb x y pen.w)))] (.own 1) (zhA (zdW p.pts pen.w i) (yb x y pen.w) oM)
   LEs.refl rfl rfl rfl ⟨⟨_,rfl,rfl,trivial⟩,trivial⟩ rfl ⟨⟨rfl,trivial⟩,trivial⟩ ?_
  refine Ob.mk (by kernel_rfl)<|⟨some 3,.own _ rfl,congrArg (λq=>some (Mem.arr 72 zh 1 q)) ?_,λ_ _=>rfl⟩;rw[vX,if_pos ⟨c,oM⟩,ei,hx,hy,show((p.pts.length:Int) - 1).toNat=p.pts.length - 1 by omega]
def ze3(p:Pl)(pen:Pen)(i:Nat):List (List Pt):=if ¬p.cl=true/\(i=0∨i=p.pts.length - 1) then[]
  else ji (nth p.pts ((i+p.pts.length - 1) % p.pts.length)) (nth p.pts i) (nth p.pts ((i+1) % p.pts.length)) pen
def yk(p:Pl)(pen:Pen)(n:Nat):List (List Pt):=(List.range n).flatMap (ze3 p pen)
theorem zfy(p:Pl)(pen:Pen)(n:Nat):yk p pen (n+1)=yk p pen n++ze3 p pen n:=by
 unfold yk;rw[Qb,Qc,Ji]
theorem zcc(p:Pl)(pen:Pen):jp p pen=if p.pts.length<=1 then[] else yk p pen p.pts.length:=rfl
theorem zhC(a v b:Pt)(p:Pen):(ji a v b p).length<=1:=by
 unfold ji
 split
 ·decide
 ·split
  ·exact vB _
  ·split
   ·decide
   ·exact vB _
theorem zvd(p:Pl)(pen:Pen)(i:Nat):(ze3 p pen i).length<=1:=by
 unfold ze3
 split
 ·decide
 ·exact zhC ..
theorem zhD(p:Pl)(pen:Pen)(n:Nat):(yk p pen n).length<=n:=by
 induction n with
 | zero=>exact Xh 0
 | succ n ih=>
  rw[zfy,Xj];have:=zvd p pen n;omega
theorem zmr(p:Pl)(pen:Pen):(jp p pen).length<=p.pts.length:=by
 rw[zcc]
 split
 ·exact Xe _
 ·exact zhD ..
theorem zve{out rs:List (List Pt)}{i:Nat}{x:List Pt}(h:rs[i]? =some x):uz out (rs.take (i+1))=uz out (rs.take i)++kS x:=by
 rw[zeA h];unfold kS
 cases x with
 | nil=>simp
 | cons a b=>simp
theorem zz4(p:Pl)(pen:Pen)(hp:p.pts.length<=4096):CG0 254 [.agg (plE p),.agg (jo pen)] [] (.sl zh (jp p pen)) []:=by
 refine zc Tryz.func254 ?_;refine⟨List Pt,zh,[],rfl,Ob.o2 ?_⟩;intro hl1;refine⟨Nat,λi=>⟨[(2,.loc 0 0),(3,.loc 1 0),(5,.own 2),(6,i64 (p.pts.length:Int)),(7,i64 (i:Int))],[(0,.box 118 [.sl ptE p.pts,pr (p.cl=true)]),(1,.box 50 (jo pen)),(2,.arr 72 zh 1 (yk p pen i))],3,74,0⟩,λi=>i<=p.pts.length/\(p.pts.length<=1->i=0),λi=>p.pts.length - i,0,?_,?_,?_⟩
 ·exact⟨Xe _,λ_=>rfl⟩
 ·exact zf [0,1,2]
 rintro i ⟨hi,h1⟩
 have bl:=zhD p pen i;have e:=zfy p pen i
 have over:(p.pts.length<=i∨p.pts.length<=1)->LE (.sl zh (yk p pen i)) (.sl zh (jp p pen)):=λh=>by
  refine z9 ?_;rw[zcc]
  split
  ·rename_i k;rw[h1 k];rfl
  ·rw[show i=p.pts.length by omega]
 refine⟨λg=>?_,λg=>over (.inl (by have g:¬(i:Int) < p.pts.length:=g;omega))⟩;have g:(i:Int) < p.pts.length:=g;refine⟨λg2=>?_,λg2=>over (.inr (by have g2:¬(1:Int) < p.pts.length:=g2;omega))⟩;have g2:(1:Int) < p.pts.length:=g2
 have skip:¬p.cl=true->i=0∨i=p.pts.length - 1->yk p pen i=yk p pen (i+1):=λh k=>by
  rw[e,show ze3 p pen i=[] from if_pos ⟨h,k⟩,Xy]
 refine⟨λc=>Br.mk (λc1=>?A) (λc1=>Ar.fit oM (Br.mk (λc2=>?B) (λc2=>?C))),λc=>?D⟩
 case A=>
  have c1:(i:Int)=0:=c1;exact Ar.o<|⟨i+1,⟨oM,λ_=>by omega⟩,zC [0,1,2] ⟨rfl,rfl,congrArg (λq=>some (Mem.arr 72 zh 1 q)) (skip c (.inl oM)),trivial⟩,by dsimp only;omega⟩
 case B=>
  have c2:(i:Int)=p.pts.length - 1:=c2;exact Ar.o<|⟨i+1,⟨oM,λ_=>by omega⟩,zC [0,1,2] ⟨rfl,rfl,congrArg (λq=>some (Mem.arr 72 zh 1 q)) (skip c (.inr oM)),trivial⟩,by dsimp only;omega⟩
 case' C=>
  have c1:¬(i:Int)=0:=c1;have c2:¬(i:Int)=p.pts.length - 1:=c2;replace c:¬(¬p.cl=true/\(i=0∨i=p.pts.length - 1)):=λh=>oM
 case' D=>replace c:¬(¬p.cl=true/\(i=0∨i=p.pts.length - 1)):=λh=>c h.1
 all_goals
  have m1:=Kv ((i:Int)+p.pts.length - 1) (show(p.pts.length:Int)≠0 by omega);have m2:=X8 ((i:Int)+p.pts.length - 1) (show 0 < (p.pts.length:Int) by omega);have m3:=Kv ((i:Int)+1) (show(p.pts.length:Int)≠0 by omega);have m4:=X8 ((i:Int)+1) (show 0 < (p.pts.length:Int) by omega)
  have e1:(((i:Int)+p.pts.length - 1) % p.pts.length).toNat=(i+p.pts.length - 1) % p.pts.length:=by
   rw[show(i:Int)+p.pts.length - 1=((i+p.pts.length - 1:Nat):Int) by omega];omega
  have e2:(((i:Int)+1) % p.pts.length).toNat=(i+1) % p.pts.length:=by
   rw[show(i:Int)+1=((i+1:Nat):Int) by omega];omega
  refine Dr.d ?_;(iterate 2 refine Ar.o ?_);refine Dv.pos ⟨oM,oM⟩<|Ob.mk ⟨m1,m2⟩ ?_;intro x hx;have hx:=qy (show p.pts[(((i:Int)+p.pts.length - 1) % p.pts.length).toNat]? =some x from hx);rw[e1]at hx;refine Ob.o ?_;intro y hy;have hy:=qy (show p.pts[i]? =some y from hy);refine Ar.o<|Dv.pos ⟨oM,oM⟩<|Ob.mk ⟨m3,m4⟩ ?_;intro z hz;have hz:=qy (show p.pts[(((i:Int)+1) % p.pts.length).toNat]? =some z from hz);rw[e2]at hz;refine zb.t (zCw x y z pen)<|Ob.mk (by kernel_rfl) ?_;have jl:=zhC x y z pen
  refine⟨Nat,λj=>⟨[(2,.loc 0 0),(3,.loc 1 0),(5,.own 2),(6,i64 (p.pts.length:Int)),(7,i64 (i:Int)),(8,.sl zh (ji x y z pen)),(9,i64 (j:Int))],[(0,.box 118 [.sl ptE p.pts,pr (p.cl=true)]),(1,.box 50 (jo pen)),(2,.arr 72 zh 1 (uz (yk p pen i) ((ji x y z pen).take j)))],3,74,0⟩,λj=>j<=(ji x y z pen).length,λj=>(ji x y z pen).length - j,0,?_,?_,?_⟩
  ·exact Xe _
  ·exact zC [0,1,2] ⟨rfl,rfl,congrArg (λq=>some (Mem.arr 72 zh 1 q)) (Xy (yk p pen i)).symm,trivial⟩
  rintro j hj
  have pl:=zgz (yk p pen i) ((ji x y z pen).take j);rw[Xk]at pl;intro hl4;refine⟨λk=>?_,λk=>?_⟩
  ·have k:(j:Int) < (ji x y z pen).length:=k;refine Ob.o ?_;intro r hr;have hr:=zve (out:=yk p pen i) (show(ji x y z pen)[j]? =some r from hr)
   refine zb.give [2] 1 [.own 0,.sl ptE r] [(0,.arr 72 zh 1 (uz (yk p pen i) ((ji x y z pen).take j)))] [(1,.arr 72 zh 1 (uz (yk p pen i) ((ji x y z pen).take j)++kS r))] (.own 1) (zhA (uz (yk p pen i) ((ji x y z pen).take j)) r oM)
    LEs.refl rfl rfl rfl ⟨⟨_,rfl,rfl,trivial⟩,trivial⟩ rfl ⟨⟨rfl,trivial⟩,trivial⟩ ?_
   refine Ar.o ?_;refine⟨j+1,oM,zC [0,1,3] ⟨rfl,rfl,congrArg (λq=>some (Mem.arr 72 zh 1 q)) hr.symm,trivial⟩,by dsimp only;omega⟩
  ·have k:¬(j:Int) < (ji x y z pen).length:=k;refine Ar.o<|⟨i+1,⟨oM,λ_=>by omega⟩,zC [0,1,2] ⟨rfl,rfl,congrArg (λq=>some (Mem.arr 72 zh 1 q)) ?_,trivial⟩,by dsimp only;omega⟩;rw[Xf oM,zqg zn3,e,show ze3 p pen i=ji x y z pen by rw[hx,hy,hz];exact if_neg c]
variable{pen:Pen}
theorem zqk(h:p.pts.length=1):zdQ p pen=kS (zba (nth p.pts 0) pen):=by unfold zdQ;rw[if_pos h]
theorem zql(h:1 < p.pts.length)(k:¬p.cl=true):zdQ p pen=kS (y9 (nth p.pts 1) (nth p.pts 0) pen)++kS (y9 (nth p.pts (p.pts.length - 2)) (nth p.pts (p.pts.length - 1)) pen):=by
 unfold zdQ;rw[if_neg (show ¬p.pts.length=1 by omega),if_pos ⟨h,k⟩]
theorem zn4(h:¬p.pts.length=1)(k:¬(1 < p.pts.length/\¬p.cl=true)):zdQ p pen=[]:=by
 unfold zdQ;rw[if_neg h,if_neg k]
theorem zyb(p:Pl)(pen:Pen):(zdQ p pen).length<=2:=by
 unfold zdQ
 split
 ·have:=vB (zba (nth p.pts 0) pen);omega
 ·split
  ·have h1:=vB (y9 (nth p.pts 1) (nth p.pts 0) pen);have h2:=vB (y9 (nth p.pts (p.pts.length - 2)) (nth p.pts (p.pts.length - 1)) pen);rw[Xj];omega
  ·decide
theorem zr3(p:Pl)(pen:Pen):(kA p pen).length<=2*p.pts.length+3:=by
 unfold kA;rw[Xj,Xj];have h1:=zfx p pen;have h2:=zmr p pen;have h3:=zyb p pen;omega
theorem zms(h:¬1 < p.pts.length):kZ p pen=zdW p.pts pen.w (p.pts.length - 1):=by
 rw[vX,if_neg (λk=>h k.2),Xy]
theorem zqm(h:p.pts.length<=1):jp p pen=[]:=by rw[zcc,if_pos h]
theorem zr4(h:p.pts.length=0):kA p pen=[]:=by
 unfold kA;rw[zms oM,zqm oM,zn4 oM oM,h];rfl
theorem zr5(h:p.pts.length=1):kA p pen=kS (zba (nth p.pts 0) pen):=by
 unfold kA;rw[zms oM,zqm oM,zqk h,h];rfl
theorem zvf(p:Pl)(pen:Pen)(hp:p.pts.length<=4096):CG0 198 [.agg (plE p),.agg (jo pen)] [] (.sl zh (kA p pen)) []:=by
 refine zc Tryz.func198 ?_;refine zb.fresh _ _ (zya p pen hp) rfl (λ_ _=>rfl) (.inl rfl)<|zb.t (zz4 p pen hp) ?_;have lb:=zfx p pen;have lj:=zmr p pen;refine⟨Nat,λi=>⟨[(2,.loc 0 0),(3,.loc 1 0),(5,.own 2),(6,.sl zh (jp p pen)),(7,i64 (i:Int))],[(0,.box 118 [.sl ptE p.pts,pr (p.cl=true)]),(1,.box 50 (jo pen)),(2,.arr 72 zh 1 (kZ p pen++(jp p pen).take i))],3,77,0⟩,λi=>i<=(jp p pen).length,λi=>(jp p pen).length - i,0,?_,?_,?_⟩
 ·exact Xe _
 ·exact zC [0,1,2] ⟨rfl,rfl,congrArg (λq=>some (Mem.arr 72 zh 1 q)) (Xy (kZ p pen)).symm,trivial⟩
 rintro i hi
 intro hl1;refine⟨λg=>?_,λg=>?_⟩
 ·have g:(i:Int) < (jp p pen).length:=g;refine Ob.o ?_;intro x hx;have hx:(jp p pen)[i]? =some x:=hx;refine⟨List Pt,zh,[x],rfl,Ob.o0 ?_⟩;refine⟨[x],rfl,Ob.o24 ?_⟩;refine Ar.o ?_;refine⟨i+1,oM,zC [0,1,4] ⟨rfl,rfl,congrArg (λq=>some (Mem.arr 72 zh 1 q)) (by rw[Xm,hx];exact XK ..),trivial⟩,by dsimp only;omega⟩
 have g:¬(i:Int) < (jp p pen).length:=g;have et:(jp p pen).take i=jp p pen:=Xf oM;have ll:(kZ p pen++(jp p pen).take i).length<=100000:=by rw[et,Xj];omega
 intro hl2;refine⟨λn1=>?_,λn1=>?_⟩
 ·have n1:(p.pts.length:Int)=1:=n1;refine Dr.d<|Ob.o ?_;intro x hx;have hx:=qy (show p.pts[0]? =some x from hx);refine zb.t (zx6 x pen) ?_
  refine zb.give [2] 1 [.own 0,.sl ptE (zba x pen)] [(0,.arr 72 zh 1 (kZ p pen++(jp p pen).take i))] [(1,.arr 72 zh 1 (kZ p pen++(jp p pen).take i++kS (zba x pen)))] (.own 1) (zhA (kZ p pen++(jp p pen).take i) (zba x pen) ll)
   LEs.refl rfl rfl rfl ⟨⟨_,rfl,rfl,trivial⟩,trivial⟩ rfl ⟨⟨rfl,trivial⟩,trivial⟩ ?_
  refine Ob.mk (by kernel_rfl)<|⟨λk=>absurd k oM,λ_=>?_⟩;refine z9 ?_;unfold kA;rw[et,zqk oM,hx]
 have n1:¬(p.pts.length:Int)=1:=n1
 have no:¬(1 < p.pts.length/\¬p.cl=true)->LE (.sl zh (kZ p pen++(jp p pen).take i)) (.sl zh (kA p pen)):=λh=>by
  refine z9 ?_;unfold kA;rw[et,zn4 oM h,Xy]
 refine⟨λk=>?_,λk=>no λh=>by have k:¬(1:Int) < p.pts.length:=k;omega⟩;have k:(1:Int) < p.pts.length:=k;refine⟨λc=>?_,λc=>no λh=>c h.2⟩;have c:¬p.cl=true:=c;refine Dr.d<|Ob.o ?_;intro x hx;have hx:=qy (show p.pts[1]? =some x from hx);refine Ob.o ?_;intro y hy;have hy:=qy (show p.pts[0]? =some y from hy);refine zb.t (zx5 x y pen) ?_;have s1:=vB (y9 x y pen)
 refine zb.give [2] 1 [.own 0,.sl ptE (y9 x y pen)] [(0,.arr 72 zh 1 (kZ p pen++(jp p pen).take i))] [(1,.arr 72 zh 1 (kZ p pen++(jp p pen).take i++kS (y9 x y pen)))] (.own 1) (zhA (kZ p pen++(jp p pen).take i) (y9 x y pen) ll)
  LEs.refl rfl rfl rfl ⟨⟨_,rfl,rfl,trivial⟩,trivial⟩ rfl ⟨⟨rfl,trivial⟩,trivial⟩ ?_
 refine Ob.mk (by kernel_rfl)<|Dr.d<|Ar.o<|Ob.o ?_;intro u hu;have hu:=qy (show p.pts[((p.pts.length:Int) - 2).toNat]? =some u from hu);rw[show((p.pts.length:Int) - 2).toNat=p.pts.length - 2 by omega]at hu;refine Ar.o<|Ob.o ?_;intro v hv;have hv:=qy (show p.pts[((p.pts.length:Int) - 1).toNat]? =some v from hv);rw[show((p.pts.length:Int) - 1).toNat=p.pts.length - 1 by omega]at hv;refine zb.t (zx5 u v pen) ?_
 refine zb.give [3] 1 [.own 0,.sl ptE (y9 u v pen)] [(0,.arr 72 zh 1 (kZ p pen++(jp p pen).take i++kS (y9 x y pen)))] [(1,.arr 72 zh 1 (kZ p pen++(jp p pen).take i++kS (y9 x y pen)++kS (y9 u v pen)))] (.own 1) (zhA (kZ p pen++(jp p pen).take i++kS (y9 x y pen)) (y9 u v pen) (by rw[et,Xj,Xj];omega))
  LEs.refl rfl rfl rfl ⟨⟨_,rfl,rfl,trivial⟩,trivial⟩ rfl ⟨⟨rfl,trivial⟩,trivial⟩ ?_
 refine Ob.mk (by kernel_rfl)<|z9 ?_;unfold kA;rw[et,zql oM c,hx,hy,hu,hv];exact XK ..
def zkA(p:Pl)(pen:Pen)(n:Nat):List (List Pt):=(List.range n).flatMap λi=>kS (yb (nth p.pts i) (nth p.pts ((i+1) % p.pts.length)) pen.w)
theorem zeB(p:Pl)(pen:Pen)(n:Nat):zkA p pen (n+1)=zkA p pen n++kS (yb (nth p.pts n) (nth p.pts ((n+1) % p.pts.length)) pen.w):=by
 unfold zkA;rw[Qb,Qc,Ji]
theorem zn5(p:Pl)(pen:Pen):∀n,n < p.pts.length->zkA p pen n=zdW p.pts pen.w n
 | 0,_=>rfl
 | n+1,h=>by rw[zeB,zhB,zn5 p pen n oM,Xu h]
theorem zyc(p:Pl)(pen:Pen)(n:Nat):(zkA p pen n).length<=n:=by
 induction n with
 | zero=>exact Xh 0
 | succ n ih=>
  rw[zeB,Xj];have:=vB (yb (nth p.pts n) (nth p.pts ((n+1) % p.pts.length)) pen.w);omega
def zdX(p:Pl):Nat:=if p.cl=true then p.pts.length else p.pts.length - 1
theorem zqn(h:p.cl=true):zdX p=p.pts.length:=if_pos h
theorem ztB(h:¬p.cl=true):zdX p=p.pts.length - 1:=if_neg h
theorem zz5(p:Pl):zdX p<=p.pts.length:=by unfold zdX;split <;> omega
theorem zyd(h:1 < p.pts.length):zkA p pen (zdX p)=kZ p pen:=by
 rw[vX]
 by_cases c:p.cl=true
 ·rw[zqn c,if_pos ⟨c,h⟩];obtain⟨m,hm⟩:∃m,p.pts.length=m+1:=⟨p.pts.length - 1,oM⟩;rw[hm,zeB,zn5 p pen m oM,hm,J9];rfl
 ·rw[ztB c,if_neg (λh=>c h.1),zn5 p pen _ oM,Xy]
theorem zz6(p:Pl)(pen:Pen)(hp:p.pts.length<=4096):CG0 250 [.agg (plE p),.agg (jo pen)] [] (.sl zh (kA p pen)) []:=by
 refine zc Tryz.func250 ?_;intro hl1;refine⟨λn0=>?_,λn0=>?_⟩
 ·have n0:(p.pts.length:Int)=0:=n0;rw[zr4 oM];exact zD
 have n0:¬(p.pts.length:Int)=0:=n0;refine⟨λn1=>?_,λn1=>?_⟩
 ·have n1:(p.pts.length:Int)=1:=n1;refine Dr.d<|Ob.o ?_;intro x hx;have hx:=qy (show p.pts[0]? =some x from hx);refine zb.t (zx4 x pen)<|⟨List Pt,zh,[zba x pen],rfl,Ob.o0 ?_⟩
  refine zb.give [2,5] 1 [.own 1,.loc 0 0] [(0,.box 30 [.val (.slice none 0 0)]),(1,.arr 72 zh 1 [zba x pen])] [(0,.box 30 [.own 2]),(2,.arr 72 zh 1 (uz [] [zba x pen]))] (.tup []) (zCG [zba x pen] (by simp))
   LEs.refl rfl rfl rfl ⟨⟨_,rfl,rfl,rfl⟩,⟨_,rfl,rfl,trivial⟩,trivial⟩ rfl ⟨⟨rfl,rfl⟩,⟨rfl,trivial⟩,trivial⟩ ?_
  refine Ob.mk (by kernel_rfl)<|z9 ?_;rw[zr5 oM,← hx,zqf];rfl
 have n1:¬(p.pts.length:Int)=1:=n1;refine Ar.o ?_;have h2:1 < p.pts.length:=oM;refine⟨λc=>?C,λc=>?D⟩
 case' C=>
  have c:p.cl=true:=c;have hL:=zqn c
 case' D=>
  have c:¬p.cl=true:=c;have hL:=ztB c
 all_goals
  have hle:=zz5 p;refine⟨Nat,λi=>⟨[(2,.loc 0 0),(3,.loc 1 0),(5,.loc 2 0),(6,.fn 307 [.loc 2 0]),(7,.loc 3 0),(8,.loc 4 0),(9,.fn 309 [.loc 3 0,.loc 4 0]),(39,i64 (zdX p:Int)),(40,i64 (i:Int))],[(0,.box 118 [.sl ptE p.pts,pr (p.cl=true)]),(1,.box 50 (jo pen)),(2,.box 30 [.own 5]),(3,.box 72 [.sl ptE p.pts]),(4,.box 3 [i64 (p.pts.length:Int)]),(5,.arr 72 zh 1 (zkA p pen i))],6,121,0⟩,λi=>i<=zdX p,λi=>zdX p - i,0,?_,?_,?_⟩
  ·exact Xe _
  ·exact jL [(0,some 0),(1,some 1),(2,some 2),(3,some 3),(4,some 4),(5,none)] ⟨rfl,rfl,rfl,rfl,rfl,rfl,rfl,congrArg (λn=>some (i64 n)) oM,rfl,trivial⟩ ⟨rfl,rfl,rfl,rfl,rfl,rfl,trivial⟩
  rintro i hi
  have bl:=zyc p pen i;refine⟨λg=>?_,λg=>?_⟩
  ·have g:(i:Int) < zdX p:=g;refine Dr.d<|Ob.o ?_;intro x hx;have hx:=qy (show p.pts[i]? =some x from hx);refine Ar.o<|zb.t (zr2 p.pts ((i:Int)+1) ((i+1) % p.pts.length) ⟨oM,hp⟩ ⟨oM,oM⟩ (by rw[show(i:Int)+1+p.pts.length=((i+1:Nat):Int)+(p.pts.length:Int) by omega,Int.add_emod_right];omega))<|zb.t (zCj x (nth p.pts ((i+1) % p.pts.length)) pen.w)<|⟨List Pt,zh,[yb x (nth p.pts ((i+1) % p.pts.length)) pen.w],rfl,Ob.o0 ?_⟩
   refine zb.give [2,5,6] 1 [.own 2,.loc 0 0] [(0,.box 30 [.own 1]),(1,.arr 72 zh 1 (zkA p pen i)),(2,.arr 72 zh 1 [yb x (nth p.pts ((i+1) % p.pts.length)) pen.w])] [(0,.box 30 [.own 3]),(3,.arr 72 zh 1 (uz (zkA p pen i) [yb x (nth p.pts ((i+1) % p.pts.length)) pen.w]))] (.tup []) (zx8 (zkA p pen i) [yb x (nth p.pts ((i+1) % p.pts.length)) pen.w] oM (by simp))
      LEs.refl rfl rfl rfl ⟨⟨_,rfl,rfl,rfl⟩,⟨_,rfl,rfl,trivial⟩,⟨_,rfl,rfl,trivial⟩,trivial⟩ rfl ⟨⟨rfl,rfl⟩,⟨rfl,trivial⟩,trivial⟩ ?_
   refine Ob.mk (by kernel_rfl)<|Ar.o ?_;refine⟨i+1,oM,zC [0,1,2,3,4,7] ⟨rfl,rfl,rfl,rfl,rfl,congrArg (λq=>some (Mem.arr 72 zh 1 q)) (by rw[zeB,zqf,hx]),trivial⟩,by dsimp only;omega⟩
  have g:¬(i:Int) < zdX p:=g;have eb:zkA p pen i=kZ p pen:=by rw[← zyd h2,show i=zdX p by omega]
  refine⟨Nat,λi=>⟨[(2,.loc 0 0),(3,.loc 1 0),(5,.loc 2 0),(6,.fn 307 [.loc 2 0]),(7,.loc 3 0),(8,.loc 4 0),(9,.fn 309 [.loc 3 0,.loc 4 0]),(58,i64 (p.pts.length:Int)),(59,i64 (i:Int))],[(0,.box 118 [.sl ptE p.pts,pr (p.cl=true)]),(1,.box 50 (jo pen)),(2,.box 30 [.own 5]),(3,.box 72 [.sl ptE p.pts]),(4,.box 3 [i64 (p.pts.length:Int)]),(5,.arr 72 zh 1 (kZ p pen++yk p pen i))],6,121,0⟩,λi=>i<=p.pts.length,λi=>p.pts.length - i,0,?_,?_,?_⟩
  ·exact Xe _
  ·exact zC [0,1,2,3,4,5] ⟨rfl,rfl,rfl,rfl,rfl,congrArg (λq=>some (Mem.arr 72 zh 1 q)) (by rw[eb];exact(Xy _).symm),trivial⟩
  rintro i hi
  have lb:=zfx p pen;have lj:=zhD p pen i;have ll:(kZ p pen++yk p pen i).length<=50000:=by rw[Xj];omega
  have ej:=zfy p pen i;refine⟨λg=>?_,λg=>?_⟩;rotate_left
  ·have g:¬(i:Int) < p.pts.length:=g;have ei:yk p pen i=jp p pen:=by rw[zcc,if_neg oM,show i=p.pts.length by omega]
   refine⟨λo=>?_,λo=>?_⟩;rotate_left
   ·refine z9 ?_;unfold kA;rw[ei,zn4 oM (λh=>o h.2),Xy]
   have o:¬p.cl=true:=o;refine Dr.d<|Ob.o ?_;intro x hx;have hx:=qy (show p.pts[1]? =some x from hx);refine Ob.o ?_;intro y hy;have hy:=qy (show p.pts[0]? =some y from hy);refine zb.t (zBl x y pen)<|Ar.o<|Ob.o ?_;intro u hu;have hu:=qy (show p.pts[((p.pts.length:Int) - 2).toNat]? =some u from hu);rw[show((p.pts.length:Int) - 2).toNat=p.pts.length - 2 by omega]at hu;refine Ar.o<|Ob.o ?_;intro v hv;have hv:=qy (show p.pts[((p.pts.length:Int) - 1).toNat]? =some v from hv)
   rw[show((p.pts.length:Int) - 1).toNat=p.pts.length - 1 by omega]at hv;refine zb.t (zBl u v pen)<|⟨List Pt,zh,[y9 x y pen,y9 u v pen],rfl,Ob.o0 ?_⟩
   refine zb.give [2,5,6] 1 [.own 2,.loc 0 0] [(0,.box 30 [.own 1]),(1,.arr 72 zh 1 (kZ p pen++yk p pen i)),(2,.arr 72 zh 1 [y9 x y pen,y9 u v pen])] [(0,.box 30 [.own 3]),(3,.arr 72 zh 1 (uz (kZ p pen++yk p pen i) [y9 x y pen,y9 u v pen]))] (.tup []) (zx8 (kZ p pen++yk p pen i) [y9 x y pen,y9 u v pen] oM (by simp))
      LEs.refl rfl rfl rfl ⟨⟨_,rfl,rfl,rfl⟩,⟨_,rfl,rfl,trivial⟩,⟨_,rfl,rfl,trivial⟩,trivial⟩ rfl ⟨⟨rfl,rfl⟩,⟨rfl,trivial⟩,trivial⟩ ?_
   refine Ob.mk (by kernel_rfl)<|z9 ?_;unfold kA;rw[zx7,ei,zql h2 o,hx,hy,hu,hv];exact XK ..
  have g:(i:Int) < p.pts.length:=g
  have skip:¬p.cl=true->i=0∨i=p.pts.length - 1->kZ p pen++yk p pen i=kZ p pen++yk p pen (i+1):=λh k=>by
   rw[ej,show ze3 p pen i=[] from if_pos ⟨h,k⟩,Xy]
  refine⟨λk=>?_,λk=>Br.mk (λk1=>Ar.fit oM (Br.mk (λk2=>?_) (λk2=>?_))) (λk1=>?_)⟩;rotate_left 2
  ·have k2:¬(i:Int) < (p.pts.length:Int) - 1:=k2;exact Ar.o<|⟨i+1,oM,zC [0,1,2,3,4,5] ⟨rfl,rfl,rfl,rfl,rfl,congrArg (λq=>some (Mem.arr 72 zh 1 q)) (skip k (.inr oM)),trivial⟩,by dsimp only;omega⟩
  ·have k1:¬(0:Int) < (i:Int):=k1;exact Ar.o<|⟨i+1,oM,zC [0,1,2,3,4,5] ⟨rfl,rfl,rfl,rfl,rfl,congrArg (λq=>some (Mem.arr 72 zh 1 q)) (skip k (.inl oM)),trivial⟩,by dsimp only;omega⟩
  all_goals
   have kk:¬(¬p.cl=true/\(i=0∨i=p.pts.length - 1)):=by
    first
    | exact λh=>h.1 k
    | exact λh=>absurd h.2 (by have k1:(0:Int) < (i:Int):=k1;have k2:(i:Int) < (p.pts.length:Int) - 1:=k2;omega)
   refine Dr.d<|Ar.o<|zb.t (zr2 p.pts ((i:Int) - 1) ((i+p.pts.length - 1) % p.pts.length) ⟨oM,hp⟩ ⟨oM,oM⟩ (by rw[show(i:Int) - 1+p.pts.length=((i+p.pts.length - 1:Nat):Int) by omega];omega))<|Ob.o ?_;intro x hx;have hx:=qy (show p.pts[i]? =some x from hx);refine Ar.o<|zb.t (zr2 p.pts ((i:Int)+1) ((i+1) % p.pts.length) ⟨oM,hp⟩ ⟨oM,oM⟩ (by rw[show(i:Int)+1+p.pts.length=((i+1:Nat):Int)+(p.pts.length:Int) by omega,Int.add_emod_right];omega)) ?_
   refine zb.t (zCv (nth p.pts ((i+p.pts.length - 1) % p.pts.length)) x (nth p.pts ((i+1) % p.pts.length)) pen) ?_;have jl:=zhC (nth p.pts ((i+p.pts.length - 1) % p.pts.length)) x (nth p.pts ((i+1) % p.pts.length)) pen
   refine zb.give [2,5] 1 [.sl zh (ji (nth p.pts ((i+p.pts.length - 1) % p.pts.length)) x (nth p.pts ((i+1) % p.pts.length)) pen),.loc 0 0] [(0,.box 30 [.own 1]),(1,.arr 72 zh 1 (kZ p pen++yk p pen i))] [(0,.box 30 [.own 2]),(2,.arr 72 zh 1 (uz (kZ p pen++yk p pen i) (ji (nth p.pts ((i+p.pts.length - 1) % p.pts.length)) x (nth p.pts ((i+1) % p.pts.length)) pen)))] (.tup []) (zCH (kZ p pen++yk p pen i) (ji (nth p.pts ((i+p.pts.length - 1) % p.pts.length)) x (nth p.pts ((i+1) % p.pts.length)) pen) oM oM)
    LEs.refl rfl rfl rfl ⟨⟨_,rfl,rfl,rfl⟩,⟨_,rfl,rfl,trivial⟩,trivial⟩ rfl ⟨⟨rfl,rfl⟩,⟨rfl,trivial⟩,trivial⟩ ?_
   refine Ob.mk (by kernel_rfl)<|Ar.o<|⟨i+1,oM,zC [0,1,2,3,4,6] ⟨rfl,rfl,rfl,rfl,rfl,congrArg (λq=>some (Mem.arr 72 zh 1 q)) ?_,trivial⟩,by dsimp only;omega⟩;rw[zqg zn3,ej,show ze3 p pen i=ji (nth p.pts ((i+p.pts.length - 1) % p.pts.length)) (nth p.pts i) (nth p.pts ((i+1) % p.pts.length)) pen from if_neg kk,hx];exact XK ..
theorem zcd{k:Nat}(h:r.length<=k):(kJ r).length<=k:=by have:=zrM r;omega
theorem zye(a b:Pt)(w:Int):(yb a b w).length<=16:=by
 unfold yb
 split
 ·simp
 ·exact zcd (by simp)
theorem zr6(a:Pt)(w:Int):(vI a w).length<=16:=by
 unfold vI
 split
 ·simp
 ·exact zcd (by rw[Xz];decide)
theorem cap_l(a b:Pt)(w:Int):(zjZ a b w).length<=16:=by
 unfold zjZ
 split
 ·simp
 ·exact zcd (by simp)
theorem zCI(a:Pt)(w:Int):(zdK a w).length<=16:=by
 unfold zdK
 split
 ·simp
 ·exact zcd (by simp)
theorem end_l(a b:Pt)(p:Pen):(y9 a b p).length<=16:=by
 unfold y9
 split
 ·exact cap_l ..
 ·split
  ·exact zr6 ..
  ·simp
theorem dot_l(a:Pt)(p:Pen):(zba a p).length<=16:=by
 unfold zba
 split
 ·exact zCI ..
 ·split
  ·exact zr6 ..
  ·simp
theorem zeC{k:Nat}(h:r.length<=k)(hq:q∈kS r):q.length<=k:=by rw[zuY hq];exact h
theorem zCJ{v:Pt}{p:Pen}:∀r∈ji a v b p,r.length<=16:=by
 intro r hr;unfold ji at hr
 split at hr
 ·cases hr
 ·split at hr
  ·exact zeC (zr6 ..) hr
  ·split at hr
   ·cases hr
   ·refine zeC (zcd ?_) hr
    split <;> simp
theorem zCK{p:Pl}{pen:Pen}:∀r∈kA p pen,r.length<=16:=by
 intro r hr;unfold kA at hr
 rcases Xo.1 hr with hr | hr
 ·rcases Xo.1 hr with hr | hr
  ·rw[vX]at hr
   rcases Xo.1 hr with hr | hr
   ·unfold zdW at hr;obtain⟨i,_,hr⟩:=Qy.1 hr;exact zeC (zye ..) hr
   ·split at hr
    ·exact zeC (zye ..) hr
    ·cases hr
  ·rw[zcc]at hr
   split at hr
   ·cases hr
   ·unfold yk at hr;obtain⟨i,_,hr⟩:=Qy.1 hr;unfold ze3 at hr
    split at hr
    ·cases hr
    ·exact zCJ r hr
 ·unfold zdQ at hr
  split at hr
  ·exact zeC (dot_l ..) hr
  ·split at hr
   ·rcases Xo.1 hr with hr | hr <;> exact zeC (end_l ..) hr
   ·cases hr
theorem zgA(r:List Pt)(rs:List (List Pt)):qi (r::rs)=r.length+qi rs:=by unfold qi;simp
theorem zz7(a b:List (List Pt)):qi (a++b)=qi a+qi b:=by unfold qi;simp
theorem ztC{k:Nat}:∀{rs:List (List Pt)},(∀r∈rs,r.length<=k)->qi rs<=k*rs.length
 | [],_=>Xe _
 | r::rs,h=>by
  have h1:=h r (.head _);have h2:=ztC λq hq=>h q (.tail _ hq)
  rw[zgA,Xl,Yz];omega
theorem jx(p:Pl):(zu p).pts.length<=p.pts.length:=by
 have h:=zhz p.pts;unfold zu;dsimp only
 split
 ·unfold qm
  split
  ·rw[QL];omega
  ·exact h
 ·exact h
theorem zhE{p:Pl}{pen:Pen}(hp:p.pts.length<=4096):qi (kA (zu p) pen)<=200000/\(kA (zu p) pen).length<=10000:=by
 have h1:=ztC (zCK (p:=zu p) (pen:=pen));have h2:=zr3 (zu p) pen;have h3:=jx p;omega
def rgE(c:List (List Pt)×Int):SV:=.tup [.sl zh c.1,i64 c.2]
theorem qP{c:List (List Pt)×Int}{e:Int}(h:c=([],e)):LE (.tup [.val (.slice none 0 0),i64 e]) (rgE c):=by
 rw[h];exact zI zD .refl
theorem zr7(p:Pl)(pen:Pen)(hp:p.pts.length<=4096):CG0 189 [.agg (plE p),.agg (jo pen)] [] (rgE (kF p pen)) []:=by
 refine zc Tryz.func189 ?_
 have es:kF p pen=if ¬kI pen then([],13) else if ¬∀q∈p.pts,zn q then([],6) else if 4096 < p.pts.length then([],5)
  else if ¬vK (kA (zu p) pen) then([],6) else if 4096 < qi (kA (zu p) pen) then([],5) else(kA (zu p) pen,0):=rfl
 refine zb.t (zeu pen)<|⟨λk=>?_,λk=>?_⟩
 ·have k:¬kI pen:=k;exact qP (by rw[es,if_pos k])
 have k:kI pen:=Xa.1 k;rw[kQ k]at es;refine⟨List Pt,zh,[p.pts],rfl,Ob.o0 ?_⟩;have c1:qi [p.pts]=p.pts.length:=by rw[zgA];rfl
 refine zb.t (zkz [p.pts] oM) ?_;have a1:vK [p.pts]↔∀q∈p.pts,zn q:=⟨λh=>h _ (.head _),λh r hr=>by rw[Xq.1 hr];exact h⟩;refine⟨λk2=>?_,λk2=>?_⟩
 ·have k2:¬∀q∈p.pts,zn q:=λh=>k2 (a1.2 h)
  exact qP (by rw[es,if_pos k2])
 have k2:∀q∈p.pts,zn q:=a1.1 (Xa.1 k2);rw[kQ k2,if_neg (show ¬4096 < p.pts.length by omega)]at es;intro hl1;refine⟨λk3=>?_,λ_=>?_⟩
 ·have k3:(4096:Int) < p.pts.length:=k3;omega
 have rc:=zhE (pen:=pen) hp;refine Dr.d<|zb.t (zgy p hp)<|zb.t (zz6 (zu p) pen (by have:=jx p;omega))<|Ob.mk (by kernel_rfl)<|zb.t (zkz (kA (zu p) pen) oM)<|⟨λk4=>?_,λk4=>?_⟩
 ·have k4:¬vK (kA (zu p) pen):=k4;exact qP (by rw[es,if_pos k4])
 have k4:vK (kA (zu p) pen):=Xa.1 k4;rw[kQ k4]at es;refine⟨λk5=>?_,λk5=>?_⟩
 ·have k5:(4096:Int) < (if vK (kA (zu p) pen) then(qi (kA (zu p) pen):Int) else 0):=k5;rw[if_pos k4]at k5;exact qP (by rw[es,if_pos oM])
 have k5:¬(4096:Int) < (if vK (kA (zu p) pen) then(qi (kA (zu p) pen):Int) else 0):=k5;rw[if_pos k4]at k5;rw[if_neg (show ¬4096 < qi (kA (zu p) pen) by omega)]at es;rw[es];exact .refl
theorem zr8(p:Pl)(pen:Pen)(hp:p.pts.length<=4096):CG0 133 [.agg (plE p),.agg (jo pen)] [] (rgE (kF p pen)) []:=by
 refine zc Tryz.func133 ?_
 have es:kF p pen=if ¬kI pen then([],13) else if ¬∀q∈p.pts,zn q then([],6) else if 4096 < p.pts.length then([],5)
  else if ¬vK (kA (zu p) pen) then([],6) else if 4096 < qi (kA (zu p) pen) then([],5) else(kA (zu p) pen,0):=rfl
 refine zb.t (zcJ pen)<|⟨λk=>?_,λk=>?_⟩
 ·have k:¬kI pen:=k;exact qP (by rw[es,if_pos k])
 have k:kI pen:=Xa.1 k;rw[kQ k]at es;refine zb.t (zqi p.pts)<|⟨λk2=>?_,λk2=>?_⟩
 ·have k2:¬∀q∈p.pts,zn q:=k2;exact qP (by rw[es,if_pos k2])
 have k2:∀q∈p.pts,zn q:=Xa.1 k2;rw[kQ k2,if_neg (show ¬4096 < p.pts.length by omega)]at es;intro hl1;refine⟨λk3=>?_,λ_=>?_⟩
 ·have k3:(4096:Int) < p.pts.length:=k3;omega
 have rc:=zhE (pen:=pen) hp;refine Dr.d<|zb.t (ziQ p hp)<|zb.t (zvf (zu p) pen (by have:=jx p;omega))<|Ob.mk (by kernel_rfl)<|⟨Nat,λi=>⟨[(6,.sl zh (kA (zu p) pen)),(7,i64 (i:Int))],[],0,39,0⟩,λi=>i<=(kA (zu p) pen).length/\vK ((kA (zu p) pen).take i),λi=>(kA (zu p) pen).length - i,0,?_,?_,?_⟩
 ·exact⟨Xe _,λr hr=>by cases hr⟩
 ·exact zE []
 rintro i ⟨h1,h2⟩
 intro hl2;refine⟨λg=>?_,λg=>?_⟩
 ·have g:(i:Int) < (kA (zu p) pen).length:=g;refine Ob.o ?_;intro x hx;have hx:(kA (zu p) pen)[i]? =some x:=hx;refine zb.t (zqi x)<|⟨λk4=>?_,λk4=>?_⟩
  ·have k4:¬vK (kA (zu p) pen):=λh=>k4 (h x (Xd hx))
   exact qP (by rw[es,if_pos k4])
  have k4:=Xa.1 k4;exact Ar.o<|⟨i+1,⟨oM,zcK hx h2 k4⟩,zE [],by dsimp only;omega⟩
 have g:¬(i:Int) < (kA (zu p) pen).length:=g;rw[Xf oM]at h2;rw[kQ h2]at es;refine zb.t (ztA (kA (zu p) pen) oM)<|⟨λk5=>?_,λk5=>?_⟩
 ·have k5:(4096:Int) < qi (kA (zu p) pen):=k5;exact qP (by rw[es,if_pos oM])
 have k5:¬(4096:Int) < qi (kA (zu p) pen):=k5;rw[if_neg (show ¬4096 < qi (kA (zu p) pen) by omega)]at es;rw[es];exact .refl
def zaH(l:List Pl)(pen:Pen):List (List Pt):=l.flatMap λp=>(kF p pen).1
theorem zmt{l:List Pl}{x:Pl}(h:l[i]? =some x):zaH (l.take (i+1)) pen=zaH (l.take i) pen++(kF x pen).1:=by
 unfold zaH;rw[Xm,h,Qc];simp
theorem zdY{pen:Pen}:∀{l:List Pl},(∀p∈l,(kF p pen).2=0)->qu l pen=(zaH l pen,0)
 | [],_=>rfl
 | p::r,h=>by
  have ih:=zdY λq hq=>h q (.tail _ hq)
  unfold qu;rw[qR (h p (.head _)),ih];rfl
theorem zcQ{pen:Pen}:∀{l:List Pl} {i:Nat} {x:Pl},l[i]? =some x->(∀p∈l.take i,(kF p pen).2=0)->¬(kF x pen).2=0->qu l pen=([],(kF x pen).2)
 | p::r,0,x,h,_,hx=>by
  cases h
  unfold qu;rw[if_pos hx]
 | p::r,i+1,x,h,ha,hx=>by
  have ih:=zcQ (l:=r) (i:=i) h (λq hq=>ha q (by rw[Kk];exact .tail _ hq)) hx;unfold qu;rw[qR (ha p (by rw[Kk];exact .head _)),ih];exact if_pos hx
theorem zcR(h:(kF p pen).2=0)(hp:p.pts.length<=4096):vK (kF p pen).1/\qi (kF p pen).1<=4096/\(kF p pen).1.length<=10000:=by
 have rc:=zhE (pen:=pen) hp;unfold kF at h ⊢
 split at h <;> rename_i k1
 ·cases h
 rw[if_neg k1]
 split at h <;> rename_i k2
 ·cases h
 rw[if_neg k2]
 split at h <;> rename_i k3
 ·cases h
 rw[if_neg k3]
 split at h <;> rename_i k4
 ·cases h
 rw[if_neg k4]
 split at h <;> rename_i k5
 ·cases h
 rw[if_neg k5];exact⟨Xa.1 k4,by dsimp only;omega,rc.2⟩
theorem zfz{pen:Pen}:∀{l:List Pl},(∀p∈l,(kF p pen).2=0)->(∀p∈l,p.pts.length<=4096)->vK (zaH l pen)/\qi (zaH l pen)<=4096*l.length/\(zaH l pen).length<=10000*l.length
 | [],_,_=>⟨λr hr=>(by cases hr),Xh 0,Xh 0⟩
 | p::r,h,hl=>by
  obtain⟨i1,i2,i3⟩:=zfz (l:=r) (λq hq=>h q (.tail _ hq)) (λq hq=>hl q (.tail _ hq));obtain⟨f1,f2,f3⟩:=zcR (h p (.head _)) (hl p (.head _));have e:zaH (p::r) pen=(kF p pen).1++zaH r pen:=rfl;rw[e,zz7,Xj,Xl];refine⟨λq hq=>?_,oM,oM⟩
  rcases Xo.1 hq with hq | hq
  ·exact f1 q hq
  ·exact i1 q hq
theorem zgB{P:Pl->Prop}{l:List Pl}{x:Pl}(h:l[i]? =some x)(ha:∀p∈l.take i,P p)(hx:P x):∀p∈l.take (i+1),P p:=by
 intro p hp;rw[Xm,h]at hp
 rcases Xo.1 hp with hp | hp
 ·exact ha p hp
 ·simp at hp;rw[hp];exact hx
theorem zvg(l:List Pl)(pen:Pen)(hl:l.length<=16777216)(hp:∀q∈l,q.pts.length<=4096):CG0 123 [.sl plE l,.agg (jo pen)] [] (rgE (qw l pen)) []:=by
 refine zc Tryz.func123 ?_;have es:qw l pen=if ¬kI pen then([],13) else if (qu l pen).2≠0 then([],(qu l pen).2) else if 4096 < qi (qu l pen).1 then([],5) else((qu l pen).1,0):=rfl
 refine zb.t (zeu pen)<|⟨λk=>?_,λk=>?_⟩
 ·have k:¬kI pen:=k;exact qP (by rw[es,if_pos k])
 have k:kI pen:=Xa.1 k;rw[kQ k]at es;intro hl1;refine⟨Nat,λi=>⟨[(3,.loc 0 0),(6,.own 1),(16,.sl plE l),(17,i64 (l.length:Int)),(18,i64 (i:Int))],[(0,.box 50 (jo pen)),(1,.arr 72 zh 1 (zaH (l.take i) pen))],2,43,0⟩,λi=>i<=l.length/\∀q∈l.take i,(kF q pen).2=0,λi=>l.length - i,0,?_,?_,?_⟩
 ·exact⟨Xe _,λq hq=>by cases hq⟩
 ·exact zE [(0,some 0),(1,none)]
 rintro i ⟨h1,h2⟩
 obtain⟨f1,f2,f3⟩:=zfz h2 λq hq=>hp q (XE hq)
 rw[Xk]at f2 f3;refine⟨λg=>?_,λg=>?_⟩
 ·have g:(i:Int) < l.length:=g;refine Ob.o ?_;intro x hx;have hx:l[i]? =some x:=hx;have hpx:=hp x (Xd hx);refine zb.t (zr7 x pen hpx)<|⟨λz=>?_,λz=>?_⟩
  ·have z:¬(kF x pen).2=0:=z;refine qP ?_;rw[es,zcQ hx h2 z];exact if_pos z
  have z:(kF x pen).2=0:=Xa.1 z;obtain⟨s1,s2,s3⟩:=zcR z hpx;refine⟨(kF x pen).1,rfl,Ob.mk ⟨(by show _*(24:Int)<=_;omega),oM,dC,λ_ _=>rfl⟩ ?_⟩;exact Ar.o<|⟨i+1,⟨oM,zgB hx h2 z⟩,zC [0,3] ⟨rfl,congrArg (λq=>some (Mem.arr 72 zh 1 q)) (zmt hx).symm,trivial⟩,by dsimp only;omega⟩
 have g:¬(i:Int) < l.length:=g;have et:l.take i=l:=Xf oM;rw[et]at h2 f1;rw[zdY h2,qR rfl]at es;have et2:zaH (l.take i) pen=zaH l pen:=by rw[et]
 refine zb.t (zkz (zaH (l.take i) pen) oM)<|⟨λk5=>?_,λk5=>?_⟩
 ·have k5:(4096:Int) < (if vK (zaH (l.take i) pen) then(qi (zaH (l.take i) pen):Int) else 0):=k5;rw[et,if_pos f1]at k5;exact qP (by rw[es,if_pos (by dsimp only;omega)])
 have k5:¬(4096:Int) < (if vK (zaH (l.take i) pen) then(qi (zaH (l.take i) pen):Int) else 0):=k5;rw[et,if_pos f1]at k5;rw[if_neg (by dsimp only;omega)]at es;rw[es];exact zI (z9 et2) .refl
theorem zvh(l:List Pl)(pen:Pen)(hl:l.length<=16777216)(hp:∀q∈l,q.pts.length<=4096):CG0 63 [.sl plE l,.agg (jo pen)] [] (rgE (qw l pen)) []:=by
 refine zc Tryz.func63 ?_;have es:qw l pen=if ¬kI pen then([],13) else if (qu l pen).2≠0 then([],(qu l pen).2) else if 4096 < qi (qu l pen).1 then([],5) else((qu l pen).1,0):=rfl
 refine zb.t (zcJ pen)<|⟨λk=>?_,λk=>?_⟩
 ·have k:¬kI pen:=k;exact qP (by rw[es,if_pos k])
 have k:kI pen:=Xa.1 k;rw[kQ k]at es;refine⟨List Pt,zh,[],rfl,Ob.o2 ?_⟩;refine⟨Nat,λi=>⟨[(0,.sl plE l),(3,.loc 0 0),(6,.own 1),(7,i64 (i:Int))],[(0,.box 50 (jo pen)),(1,.arr 72 zh 1 (zaH (l.take i) pen))],2,50,0⟩,λi=>i<=l.length/\∀q∈l.take i,(kF q pen).2=0,λi=>l.length - i,0,?_,?_,?_⟩
 ·exact⟨Xe _,λq hq=>by cases hq⟩
 ·exact zf [0,1]
 rintro i ⟨h1,h2⟩
 obtain⟨f1,f2,f3⟩:=zfz h2 λq hq=>hp q (XE hq)
 rw[Xk]at f2 f3;intro hl1;refine⟨λg=>?_,λg=>?_⟩
 ·have g:(i:Int) < l.length:=g;refine Dr.d<|Ob.o ?_;intro x hx;have hx:l[i]? =some x:=hx;have hpx:=hp x (Xd hx);refine zb.t (zr8 x pen hpx)<|Ob.mk (by kernel_rfl)<|⟨λz=>?_,λz=>?_⟩
  ·have z:¬(kF x pen).2=0:=z;refine qP ?_;rw[es,zcQ hx h2 z];exact if_pos z
  have z:(kF x pen).2=0:=Xa.1 z;obtain⟨s1,s2,s3⟩:=zcR z hpx;refine⟨Nat,λj=>⟨[(0,.sl plE l),(3,.loc 0 0),(6,.own 1),(7,i64 (i:Int)),(8,.sl zh (kF x pen).1),(10,i64 (j:Int))],[(0,.box 50 (jo pen)),(1,.arr 72 zh 1 (zaH (l.take i) pen++(kF x pen).1.take j))],2,50,0⟩,λj=>j<=(kF x pen).1.length,λj=>(kF x pen).1.length - j,0,?_,?_,?_⟩
  ·exact Xe _
  ·exact zC [0,1] ⟨rfl,congrArg (λq=>some (Mem.arr 72 zh 1 q)) (Xy _).symm,trivial⟩
  rintro j hj
  intro hl3;refine⟨λk2=>?_,λk2=>?_⟩
  ·have k2:(j:Int) < (kF x pen).1.length:=k2;refine Ob.o ?_;intro r hr;have hr:(kF x pen).1[j]? =some r:=hr;refine⟨List Pt,zh,[r],rfl,Ob.o0 ?_⟩;refine⟨[r],rfl,Ob.o24 ?_⟩;exact Ar.o<|⟨j+1,oM,zC [0,3] ⟨rfl,congrArg (λq=>some (Mem.arr 72 zh 1 q)) (by rw[Xm,hr];exact XK ..),trivial⟩,by dsimp only;omega⟩
  have k2:¬(j:Int) < (kF x pen).1.length:=k2;exact Ar.o<|⟨i+1,⟨oM,zgB hx h2 z⟩,zC [0,1] ⟨rfl,congrArg (λq=>some (Mem.arr 72 zh 1 q)) (by rw[show(kF x pen).1.take j=(kF x pen).1 from Xf oM,zmt hx]),trivial⟩,by dsimp only;omega⟩
 have g:¬(i:Int) < l.length:=g;have et:l.take i=l:=Xf oM;rw[et]at h2;rw[zdY h2,qR rfl]at es;have et2:zaH (l.take i) pen=zaH l pen:=by rw[et]
 refine zb.t (ztA (zaH (l.take i) pen) oM)<|⟨λk5=>?_,λk5=>?_⟩
 ·have k5:(4096:Int) < qi (zaH (l.take i) pen):=k5;rw[et]at k5;exact qP (by rw[es,if_pos (by dsimp only;omega)])
 have k5:¬(4096:Int) < qi (zaH (l.take i) pen):=k5;rw[et]at k5;rw[if_neg (by dsimp only;omega)]at es;rw[es];exact zI (z9 et2) .refl
end Go.Gs
