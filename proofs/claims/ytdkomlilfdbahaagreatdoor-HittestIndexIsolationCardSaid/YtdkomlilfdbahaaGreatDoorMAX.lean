/- Dashes: the intervals one by one, in the first text. -/
import Derived.Test.YtdkomlilfdbahaaGreatDoorMAW
import Derived.Defers
set_option maxRecDepth 100000
set_option maxHeartbeats 80000000
set_option linter.all false
namespace Go.Gs
open Proofs.Tryz
open Go.Proofs
def runE(q:Nat×Nat):LR:=[i64 (q.1:Int),i64 (q.2:Int)]
def zEn{pen:Pen}{long:Int}(a:kF pen)(b:¬long<1)(g:¬ve 1 pen.d pen.d.length=0)(j:¬ve 0 pen.d pen.d.length=0):kV pen long=kO (onD pen) long.toNat:=by
 have e:=zb7 pen.d pen.d.length (Xj _);rw[yO]at e;have k:=zeE pen.d;unfold kV;rw[Xc (λh=>by rcases h with h|h|h;exact h a;exact b h;omega),Xc oM]
def zuG{pen:Pen}{long:Int}(a:kF pen)(b:¬long<1)(g:ve 1 pen.d pen.d.length=0):kV pen long=[(0,long.toNat)]:=by
 have e:=zb7 pen.d pen.d.length (Xj _);rw[yO]at e;have j:=zeE pen.d;unfold kV;rw[Xc (λh=>by rcases h with h|h|h;exact h a;exact b h;omega),Xe oM]
def zyl{pen:Pen}{long:Int}(e:kF pen)(g:¬long<1)(h:¬ve 1 pen.d pen.d.length=0)(j:ve 0 pen.d pen.d.length=0)(a:∀n∈pen.d,0<=n):kV pen long=[]:=by
 have b:=zb7 pen.d pen.d.length (Xj _);rw[yO]at b;have k:=zeE pen.d;have m:=yl (r:=1) a pen.d.length (Xj _);unfold kV;rw[Xe (.inr (.inr ⟨oM,oM⟩))]
variable{pen:Pen}{long:Int}
def zsF(h:¬kF pen∨long<1):kV pen long=[]:=by
 unfold kV;rw[Xe (by rcases h with h|h;exact .inl h;exact .inr (.inl h))]
structure Wk where
 a:Nat
 i:Nat
 l:Int
def okW(pen:Pen)(long:Int)(s:Wk):Prop:=
 (s.a:Int)<=long/\s.i<pen.d.length/\0<=s.l/\(∃e,pen.d[s.i]?=some e/\s.l<=256*e)/\((s.a:Int)<long->qK pen.d ∣ qF pen.d (s.i+1)-s.l-((s.a:Int)+256*pen.ph))
def jI(pen:Pen)(long:Int)(s:Wk):Wk:=⟨s.a+(min s.l (long-s.a)).toNat,(s.i+1)%pen.d.length,256*pen.d.getD ((s.i+1)%pen.d.length) 0⟩
def muW(pen:Pen)(long:Int)(j:Nat)(s:Wk):Nat:=(long.toNat-s.a)*(pen.d.length+2)+if s.l=0 then 1+(j+pen.d.length-1-s.i)%pen.d.length else 0
def zEo{s:Wk}(p:uG pen.d)(h:okW pen long s)(b:(s.a:Int)<long):okW pen long (jI pen long s):=by
 obtain⟨w,n,y,⟨e,z,A⟩,o⟩:=h;obtain⟨m,t,u,v⟩:=ym p;have k:(s.i+1)%pen.d.length<pen.d.length:=Kq _ oM
 have g:pen.d[(s.i+1)%pen.d.length]?=some (pen.d.getD ((s.i+1)%pen.d.length) 0):=by
  rw[Xs,Xb k];rfl
 have q:=m _ (Xf g);refine⟨by unfold jI;dsimp only;omega,k,by unfold jI;dsimp only;omega,⟨_,g,K4 _⟩,λj=>?_⟩;unfold jI at j ⊢;dsimp only at j ⊢;exact zEm n g (o b) oM
def zEp{s:Wk}{j:Nat}(H:uG pen.d)(h:okW pen long s)(v:(s.a:Int)<long)(q:∃x,pen.d[j]?=some x/\0<x):muW pen long j (jI pen long s)<muW pen long j s:=by
 obtain⟨B,C,D,⟨e,E,F⟩,G⟩:=h;obtain⟨x,k,w⟩:=q;have t:j<pen.d.length:=(Xd.1 k).1;unfold muW jI;dsimp only
 by_cases z:s.l=0
 .rw[Xe z];have m:(min s.l (long-s.a)).toNat=0:=oM;rw[m,XX];refine Nat.add_lt_add_left ?_ _
  split
  .rename_i g
   -- the next is none of the entries that are more than zero
   have b:(s.i+1)%pen.d.length≠j:=λp=>by
    rw[p,Xs,k]at g;have g:256*x=0:=g;omega
   have key:(j+pen.d.length-1-(s.i+1)%pen.d.length)%pen.d.length+1=(j+pen.d.length-1-s.i)%pen.d.length:=by
    by_cases c:s.i+1<pen.d.length
    .rw[XB c]at b ⊢
     by_cases y:s.i<j
     .rw[show j+pen.d.length-1-(s.i+1)=(j-1-(s.i+1))+pen.d.length by omega,show j+pen.d.length-1-s.i=(j-1-s.i)+pen.d.length by omega,Yi,Yi,XB oM,XB oM];omega
     rw[XB oM,XB oM];omega
    have u:s.i+1=pen.d.length:=by omega
    rw[u,J2]at b ⊢;rw[show j+pen.d.length-1-0=(j-1)+pen.d.length by omega,Yi,XB (show j-1<pen.d.length by omega),XB (show j+pen.d.length-1-s.i<pen.d.length by omega)];omega
   omega
  omega
 rw[Xc z];have I:(j+pen.d.length-1-(s.i+1)%pen.d.length)%pen.d.length<pen.d.length:=Kq _ oM;have n:long.toNat-s.a=(long.toNat-(s.a+(min s.l (long-s.a)).toNat))+(min s.l (long-s.a)).toNat:=oM;have o:1<=(min s.l (long-s.a)).toNat:=oM;have A:1*(pen.d.length+2)<=(min s.l (long-s.a)).toNat*(pen.d.length+2):=Xy _ o;rw[n,Kd]
 split <;> omega
def zBG{s:Wk}(u:uG pen.d)(h:okW pen long s)(m:(s.a:Int)<long)(C:¬min s.l (long-s.a)=0):
  (s.i%2=0->z9 (onD pen) (jI pen long s).a=((z9 (onD pen) s.a).1,some ((z9 (onD pen) s.a).2.getD s.a)))/\(¬s.i%2=0->z9 (onD pen) (jI pen long s).a=(kO (onD pen) s.a,none)):=by
 obtain⟨z,A,B,⟨e,o,p⟩,q⟩:=h;obtain⟨n,v,w,y⟩:=ym u
 have on:∀t,s.a<=t->t<(jI pen long s).a->(onD pen t↔s.i%2=0):=λt ht j=>by
  unfold jI at j;dsimp only at j;exact zFY n o p (q m) ht oM
 have g:s.a<(jI pen long s).a:=by unfold jI;dsimp only;omega
 exact⟨λk=>zA0 g λt a b=>(on t a b).2 k,λk=>zv6 g λt a b c=>k ((on t a b).1 c)⟩
def zEq(pen:Pen)(long:Int)(hlong:long<=70368744177664):zfY prog 314 [.dptr (jb pen),.dptr [i64 long]] runE (kV pen long):=by
 refine zkj (caps:=[.dptr (jb pen),.dptr [i64 long]]) (enc:=runE) (xs:=kV pen long) tok mix func314 rfl rfl rfl rfl (λl=>?_);have D:¬kF pen∨long<1->0=(kV pen long).length:=λh=>by rw[zsF h];rfl
 refine wg (zfi pen)<|⟨λk=>.inr (D (.inl k)),λk=>?_⟩;have G:kF pen:=Xa.1 k;refine⟨λH=>.inr (D (.inr (by have H:long<=0:=H;omega))),λH=>?_⟩;have H:¬long<=0:=H;have F:=G.2.2.2.2.1;obtain⟨u,N,d3,d4⟩:=ym F;intro hl1
 refine⟨Nat,λi=>⟨[(0,.val (.func (.yield l) #[] #[])),(1,.dptr (jb pen)),(2,.dptr [i64 long]),(4,.loc 0 0),(20,.sl zN pen.d),(21,i64 pen.d.length),(22,i64 i)],[(0,.box 252 [i64 (ve 0 pen.d i),i64 (ve 1 pen.d i)])],1,103,0⟩,λ_=>0,λi=>i<=pen.d.length,λi=>pen.d.length-i,0,?_,?_,rfl,rfl,?_⟩
 .exact Xh _
 .exact zf [0]
 rintro i hi
 have S:=zb7 pen.d i hi;have hpi:=zeD u hi;have p0:=yl (r:=0) u i hi;have p1:=yl (r:=1) u i hi;refine⟨λg:(i:Int)<pen.d.length=>?_,λg:¬(i:Int)<pen.d.length=>?_⟩
 .refine wb λx(o:pen.d[i]?=some x)=>?_;have t:=u x (Xf o);have b:=N x (Xf o);refine Dv.pos ⟨oM,dC⟩ ?_
  rcases Ya i with h|h
  .rw[show(i:Int)%2=0 by omega];(iterate 2 refine wa ?_);exact⟨i+1,oM,zt [0] ⟨(show some (Mem.box 252 [i64 (ve 0 pen.d i+x),i64 (ve 1 pen.d i)])=some (Mem.box 252 [i64 (ve 0 pen.d (i+1)),i64 (ve 1 pen.d (i+1))]) by rw[zft o h,zi4 (r:=1) oM]),tV⟩,rfl,rfl,oN⟩
  rw[show(i:Int)%2=1 by omega];(iterate 2 refine wa ?_);exact⟨i+1,oM,zt [0] ⟨(show some (Mem.box 252 [i64 (ve 0 pen.d i),i64 (ve 1 pen.d i+x)])=some (Mem.box 252 [i64 (ve 0 pen.d (i+1)),i64 (ve 1 pen.d (i+1))]) by rw[zft o h,zi4 (r:=0) oM]),tV⟩,rfl,rfl,oN⟩
 have ei:i=pen.d.length:=oM;refine⟨λq1:ve 1 pen.d i=0=>?_,λq1:¬ve 1 pen.d i=0=>?_⟩
 .rw[ei]at q1;have e:=zuG (long:=long) G oM q1;refine⟨rfl,(0,long.toNat),by rw[e];rfl,rfl,.C (.cons (ze (show long=((long.toNat:Nat):Int) by omega)) .nil),(λk m h=>?_),?_⟩
  .cases h with
   |head=>rfl
   |tail _ h=>cases h
  exact⟨.inr (by rw[e];rfl),.inl rfl⟩
 rw[ei]at q1;refine⟨λK:ve 0 pen.d i=0=>?_,λK:¬ve 0 pen.d i=0=>?_⟩
 .rw[ei]at K;exact .inr (by rw[zyl (long:=long) G oM q1 K u];rfl)
 rw[ei]at K S p0 p1;rw[yO]at S;have eR:=zEn (long:=long) G oM q1 K;have hper:0<qK pen.d:=oM
 obtain⟨j,y,O,hy⟩:∃(j:Nat) (y:Int),pen.d[j]?=some y/\0<y:=by
  have P:=F.2.1.resolve_left λh=>q1 (by rw[h];rfl)
  obtain⟨n,P,Y⟩:=P;obtain⟨j,O,he⟩:=Kw P;exact⟨j,n,by rw[Xb O,he],Y⟩
 refine wg (zyk pen G hper) ?_
 -- where it begins
 have T:=Kj ((0:Nat)+256*pen.ph) (show qK pen.d≠0 by omega);have U:=Kg ((0:Nat)+256*pen.ph) hper;rw[←zsE pen 0]at T U;obtain⟨i0,E,M,W,X⟩:=zpS u T U;have gp:=zfn (i0:=0) u M W X;rw[Kb]at gp;have gs:=yw M
 have Q:okW pen long ⟨0,i0,qF pen.d i0+256*E-phD pen (0:Nat)⟩:=by
  refine⟨oN,(Xd.1 M).1,oN,⟨E,M,oN⟩,λ_=>?_⟩;dsimp only;rw[show qF pen.d (i0+1)-(qF pen.d i0+256*E-phD pen (0:Nat))-(((0:Nat):Int)+256*pen.ph)=phD pen (0:Nat)-(((0:Nat):Int)+256*pen.ph) by omega,zsE];have:=YD (((0:Nat):Int)+256*pen.ph) (qK pen.d);exact⟨-((((0:Nat):Int)+256*pen.ph)/qK pen.d),by rw[QQ];omega⟩
 have gp:yC pen.d (phD pen 0) 0=(i0,qF pen.d i0+256*E-phD pen (0:Nat)):=gp;refine⟨Wk,λs=>⟨[(0,.val (.func (.yield l) #[] #[])),(1,.dptr (jb pen)),(2,.dptr [i64 long]),(7,i64 (frI (z9 (onD pen) s.a).2)),(8,i64 s.i),(9,i64 s.l),(10,i64 s.a)],[],0,103,0⟩,λs=>(z9 (onD pen) s.a).1.length,okW pen long,muW pen long j,⟨0,i0,qF pen.d i0+256*E-phD pen (0:Nat)⟩,Q,?_,rfl,rfl,?_⟩
 .exact jv [] ⟨rfl,rfl,rfl,rfl,iR (by rw[gp]),iR (by rw[gp]),rfl,tV⟩ trivial
 rintro s A
 obtain⟨h1,h2,h3,⟨e,Z,h5⟩,h6⟩:=id A;have hpl:=zeD u (show s.i<=pen.d.length by omega);have he2:=N e (Xf Z);refine⟨λc=>?_,λc=>?_⟩;rotate_left
 .have c:¬(s.a:Int)<long:=c;have L:s.a=long.toNat:=oM;have eF:kV pen long=(z9 (onD pen) s.a).1++((z9 (onD pen) s.a).2.map λf=>(f,s.a)).toList:=by rw[eR,←L];rfl
  refine⟨λf:0<=frI (z9 (onD pen) s.a).2=>?_,λf:¬0<=frI (z9 (onD pen) s.a).2=>?_⟩
  .obtain⟨q,B,w⟩:=zqd (show¬frI (z9 (onD pen) s.a).2<0 by omega);rw[B]at eF;refine⟨rfl,(q,s.a),by rw[eF];exact QB ..,rfl,.cons (ze w) (.cons (ze (show long=((s.a:Nat):Int) by omega)) .nil),(λ_ _ h=>by cases h),?_⟩;exact⟨.inr (by rw[eF,Xr];rfl),.inl rfl⟩
  rw[zqc (show frI (z9 (onD pen) s.a).2<0 by omega)]at eF;exact .inr (by rw[eF];exact(Xg List.length (XE _)).symm)
 have c:(s.a:Int)<long:=c;have nok:=zEo F A c;have nmu:=zEp F A c ⟨y,O,hy⟩;have nrun:=zBG F A c;have na:((jI pen long s).a:Int)=s.a+min s.l (long-s.a):=by unfold jI;dsimp only;omega
 have ni:(((jI pen long s).i:Nat):Int)=((s.i:Int)+1)%pen.d.length:=by unfold jI;dsimp only;exact Q5 ..
 have I:=Kj ((s.i:Int)+1) (show(pen.d.length:Int)≠0 by omega);have J:=Kg ((s.i:Int)+1) (show 0<(pen.d.length:Int) by omega)
 have V:(((s.i:Int)+1)%pen.d.length).toNat=(s.i+1)%pen.d.length:=by
  rw[show(s.i:Int)+1=((s.i+1:Nat):Int) by omega];omega
 have tailX:∀x,pen.d[(((s.i:Int)+1)%pen.d.length).toNat]?=some x->(0<=x/\x<=1048576)/\(jI pen long s).l=256*x:=λx o=>by
  refine⟨⟨u x (Xf o),N x (Xf o)⟩,?_⟩;rw[V]at o;unfold jI;dsimp only;rw[Xs,o];rfl
 have hmin:zcf s.l [long-(s.a:Int)]=min s.l (long-s.a):=rfl;refine wa<|Br.mk (λz=>?_) (λz=>?_)
 .have z:min s.l (long-s.a)=0:=z;have L:(jI pen long s).a=s.a:=oM;(iterate 2 refine wa ?_);intro v;refine Dv.pos ⟨oM,oM⟩<|Ob.mk ⟨I,J⟩ λx o=>?_;obtain⟨t,b⟩:=tailX x o;exact wa<|⟨jI pen long s,nok,jv [] ⟨rfl,rfl,rfl,Xg (λq=>some (i64 (frI (z9 (onD pen) q).2))) L.symm,iR ni.symm,iR b.symm,iR na.symm,tV⟩ trivial,Xg (λq=>(z9 (onD pen) q).1.length) L.symm,rfl,nmu⟩
 have z:¬min s.l (long-s.a)=0:=z;obtain⟨rOn,rOff⟩:=nrun z;have rF:=zA1 (on:=onD pen) (show(jI pen long s).a<=long.toNat by have:=nok.1;omega);rw[←eR]at rF;refine Dv.pos ⟨oM,dC⟩<|⟨λev=>?_,λev=>?_⟩
 .have ev:s.i%2=0:=by have ev:(s.i:Int)%2=0:=ev;omega
  have rOn:=rOn ev;have cnt:(z9 (onD pen) s.a).1.length=(z9 (onD pen) (jI pen long s).a).1.length:=by rw[rOn]
  refine⟨λf:frI (z9 (onD pen) s.a).2<0=>?_,λf:¬frI (z9 (onD pen) s.a).2<0=>?_⟩
  .have p:(s.a:Int)=frI (z9 (onD pen) (jI pen long s).a).2:=by rw[rOn,zqc f];rfl
   (iterate 2 refine wa ?_);intro v;refine Dv.pos ⟨oM,oM⟩<|Ob.mk ⟨I,J⟩ λx o=>?_;obtain⟨t,b⟩:=tailX x o;exact wa<|⟨jI pen long s,nok,jv [] ⟨rfl,rfl,rfl,iR p,iR ni.symm,iR b.symm,iR na.symm,tV⟩ trivial,cnt,rfl,nmu⟩
  obtain⟨q,B,w⟩:=zqd f;have p:frI (z9 (onD pen) s.a).2=frI (z9 (onD pen) (jI pen long s).a).2:=by rw[rOn,B];rfl
  refine Dv.pos ⟨oM,dC⟩<|⟨λod=>absurd (show(s.i:Int)%2=1 from od) oM,λ_=>?_⟩;(iterate 2 refine wa ?_);intro v;refine Dv.pos ⟨oM,oM⟩<|Ob.mk ⟨I,J⟩ λx o=>?_;obtain⟨t,b⟩:=tailX x o;exact wa<|⟨jI pen long s,nok,jv [] ⟨rfl,rfl,rfl,iR p,iR ni.symm,iR b.symm,iR na.symm,tV⟩ trivial,cnt,rfl,nmu⟩
 have ev:¬s.i%2=0:=by have ev:¬(s.i:Int)%2=0:=ev;omega
 have rOff:=rOff ev;refine Dv.pos ⟨oM,dC⟩<|⟨λ_=>?_,λod=>absurd (show(s.i:Int)%2=1 by omega) od⟩;refine⟨λf:0<=frI (z9 (onD pen) s.a).2=>?_,λf:¬0<=frI (z9 (onD pen) s.a).2=>?_⟩
 .obtain⟨q,B,w⟩:=zqd (show¬frI (z9 (onD pen) s.a).2<0 by omega);have eA:(z9 (onD pen) (jI pen long s).a).1=(z9 (onD pen) s.a).1++[(q,s.a)]:=by rw[rOff];unfold kO;rw[B];rfl
  obtain⟨r,R⟩:=rF;rw[eA]at R;refine⟨rfl,(q,s.a),?_,rfl,.cons (ze w) (.C .nil),(λ_ _ h=>by cases h),?_⟩
  .show(kV pen long)[(z9 (onD pen) s.a).1.length]?=some (q,s.a);rw[R,XL,XG (Xj _),QT];rfl
  refine Br.mk ?_ (.inl rfl);have p:(-1:Int)=frI (z9 (onD pen) (jI pen long s).a).2:=by rw[rOff];rfl
  have cnt:(z9 (onD pen) s.a).1.length+1=(z9 (onD pen) (jI pen long s).a).1.length:=by rw[eA,Xr];rfl
  (iterate 2 refine wa ?_);intro v;refine Dv.pos ⟨oM,oM⟩<|Ob.mk ⟨I,J⟩ λx o=>?_;obtain⟨t,b⟩:=tailX x o;exact wa<|⟨jI pen long s,nok,jv [] ⟨rfl,rfl,rfl,iR p,iR ni.symm,iR b.symm,iR na.symm,tV⟩ trivial,cnt,rfl,nmu⟩
 have B:=zqc (show frI (z9 (onD pen) s.a).2<0 by omega);have p:frI (z9 (onD pen) s.a).2=frI (z9 (onD pen) (jI pen long s).a).2:=by rw[rOff,B]
 have cnt:(z9 (onD pen) s.a).1.length=(z9 (onD pen) (jI pen long s).a).1.length:=by rw[rOff];unfold kO;rw[B];exact(Xg List.length (XE _)).symm
 (iterate 2 refine wa ?_);intro v;refine Dv.pos ⟨oM,oM⟩<|Ob.mk ⟨I,J⟩ λx o=>?_;obtain⟨t,b⟩:=tailX x o;exact wa<|⟨jI pen long s,nok,jv [] ⟨rfl,rfl,rfl,iR p,iR ni.symm,iR b.symm,iR na.symm,tV⟩ trivial,cnt,rfl,nmu⟩
def p_on(pen:Pen)(long:Int):CX 250 [ws pen,i64 long] (.dfn 314 [.dptr (jb pen),.dptr [i64 long]]):=by
 exact yJ 2 tok mix func250 rfl rfl rfl<|.refl
variable{c:LU}{x:Int}{i:Nat}
def zmd(h:¬x<atS c i):zlT c x i=i:=by
 cases i with
 |zero=>rfl
 |succ i=>unfold zlT;rw[Xc h]
def zBH(h:x<atS c (i+1)):zlT c x (i+1)=zlT c x i:=by
 show(if x<atS c (i+1) then zlT c x i else i+1)=_;rw[Xe h]
def zBI{q:Pl}(b:2<=(zZ q).length)(hi:i<=(zZ q).length-2):nth q.pts ((i+1)%q.pts.length)=nth (zZ q) (i+1):=by
 by_cases h:q.cl=true/\2<=q.pts.length
 .have a:=zdo h.1 h.2
  by_cases e:i+1=q.pts.length
  .rw[e,J2,zsD h.1 h.2]
  rw[XB oM,zbK oM]
 have a:=zb6 h;rw[XB oM,zbK oM]
def meQ(q:Pl):Me:=⟨q.pts,tsL (zZ q) ((zZ q).length-1),atS (zZ q) ((zZ q).length-1)⟩
def zEr{p:Pl}(h:∀q∈p.pts,zm q):zwi p=meQ (zw p):=Xe h
def zwj(q:Pl)(x:Int)(J:q.pts.length<=4096)(B:2<=(zZ q).length)(K:0<=x/\x<=70368744177664):CX 316 [.agg (meE (meQ q)),i64 x] (wk (zdQ (zZ q) x)):=by
 refine zc func316 ?_;have ll:=jQ q;have tl:(meQ q).ts.length=(zZ q).length-1:=zkp ..;intro C;refine wa<|⟨Nat,λi=>⟨[(1,i64 x),(2,.loc 0 0),(4,.loc 1 0),(5,i64 i)],[(0,.box 268 (meE (meQ q))),(1,.box 28 [i64 0,i64 0])],2,68,0⟩,λi=>i<=(zZ q).length-2/\zlT (zZ q) x ((zZ q).length-2)=zlT (zZ q) x i,λi=>i,(zZ q).length-2,?_,?_,?_⟩
 .exact⟨Xj _,rfl⟩
 .exact zQ [0,1] ⟨rfl,rfl,rfl,iR (by rw[tl];omega),tV⟩ ⟨rfl,rfl,tV⟩
 rintro i ⟨hi,hidx⟩
 have ar:=zak (zZ q) i;have v:=zak (zZ q) (i+1);have w:=zak (zZ q) ((zZ q).length-1);refine⟨λg=>Ob.mk (by have g:(0:Int)<(i:Int):=g;omega) λy o=>Br.mk (λc=>?_) (λc=>?_),λg=>?_⟩
 .have g:(0:Int)<(i:Int):=g;have o:=zi3 (show(tsL (zZ q) ((zZ q).length-1))[i]?=some y from o);have c:x<y:=c;obtain⟨k,rfl⟩:∃k,i=k+1:=⟨i-1,oM⟩;exact wa<|⟨k,⟨oM,by rw[hidx,zBH (by rw[←o];exact c)]⟩,zQ [0,1] ⟨rfl,rfl,rfl,iR oM,tV⟩ ⟨rfl,rfl,tV⟩,XZ k⟩
 all_goals
  have s:zlT (zZ q) x ((zZ q).length-2)=i:=by
   first
   |exact hidx.trans (zmd (by rw[←zi3 (show(tsL (zZ q) ((zZ q).length-1))[i]?=some y from o)];exact c))
   |exact hidx.trans (by rw[show i=0 by have g:¬(0:Int)<(i:Int):=g;omega];rfl)
  clear g;refine wa λD=>?_;refine⟨λd=>Ar.fit oM (Ob.mk ⟨oM,d⟩ λz F=>?_),λd=>?_⟩
  all_goals
   have I:1<=q.pts.length:=oM;have G:=Kj ((i:Int)+1) (show(q.pts.length:Int)≠0 by omega);have H:=Kg ((i:Int)+1) (show 0<(q.pts.length:Int) by omega)
   have A:(((i:Int)+1)%q.pts.length).toNat=(i+1)%q.pts.length:=by
    rw[show(i:Int)+1=((i+1:Nat):Int) by omega];omega
   refine wc<|Ob.mk (show 0<=(i:Int)/\(i:Int)<q.pts.length by omega) λa m=>?_;have m:=qx (show q.pts[i]?=some a from m);rw[←zbK (q:=q) (i:=i) oM]at m;refine wa λE=>Dv.pos ⟨oM,(show 0<(q.pts.length:Int) by omega)⟩<|Ob.mk ⟨G,H⟩ λb n=>?_;have n:=qx (show q.pts[(((i:Int)+1)%q.pts.length).toNat]?=some b from n);rw[A,zBI B hi]at n;refine Ob.mk (show 0<=(i:Int)/\(i:Int)<((meQ q).ts.length:Int) by omega) λu t=>?_
   have t:=zi3 (show(tsL (zZ q) ((zZ q).length-1))[i]?=some u from t);refine wa<|Ob.mk (show 0<=(i:Int)/\(i:Int)<((meQ q).ts.length:Int) by omega) λj e=>?_;have e:=zi3 (show(tsL (zZ q) ((zZ q).length-1))[i]?=some j from e)
   have key:∀T,T=atS (zZ q) (i+1)->uO a b (x-u) (T-j)=zdQ (zZ q) x:=λT h=>by
    unfold zdQ;dsimp only;rw[s,h,t,e,m,n]
   first
   |have hT:=zi3 (show(tsL (zZ q) ((zZ q).length-1))[i+1]?=some z from F)
    exact wa<|wg (zAH a b (x-u) (z-j))<|uj (Xg (λp=>SV.agg (ptE p)) (key _ hT))
   |have d:¬(i:Int)+1<((meQ q).ts.length:Int):=d
    have hT:atS (zZ q) ((zZ q).length-1)=atS (zZ q) (i+1):=by rw[show(zZ q).length-1=i+1 by omega]
    exact Ar.fit (show-9223372036854775808<=atS (zZ q) ((zZ q).length-1)-j/\atS (zZ q) ((zZ q).length-1)-j<=9223372036854775807 by omega)<|wg (zAH a b (x-u) (atS (zZ q) ((zZ q).length-1)-j))<|uj (Xg (λp=>SV.agg (ptE p)) (key _ hT))
def zBJ(q:LU)(x:Pt)(d:0<q.length/\q.length<=100000):CG0 317 [wk x,.loc 0 0] [(0,.box 156 [.own 1]),(1,.arr 28 ptE 2 q)] (.tup []) [(0,.box 156 [.own 2]),(2,.arr 28 ptE 2 (y8 q x))]:=by
 refine uk tok mix func317 rfl rfl rfl<|wd λb=>wa<|wb<|wb λz a=>?_
 have a:q[q.length-1]?=some z:=by
  have a:q[((q.length:Int)-1).toNat]?=some z:=a
  rwa [show((q.length:Int)-1).toNat=q.length-1 by omega]at a
 refine wh<|⟨λk=>?_,λk=>?_⟩
 .have k:¬z=x:=λh=>k (qp.2 h)
  refine⟨Pt,ptE,[x],rfl,wb0 ?_⟩;refine⟨[x],rfl,wb4 ?_⟩;refine⟨⟨[],[(0,.box 156 [.own 2]),(2,.arr 28 ptE 2 (y8 q x))],3,15,2⟩,zt [0,1,4] ⟨rfl,aR (zkm a k).symm,tV⟩,rfl,.refl⟩
 have k:z=x:=qp.1 (Xa.1 k);refine⟨⟨[],[(0,.box 156 [.own 2]),(2,.arr 28 ptE 2 (y8 q x))],3,15,2⟩,zt [0,1,1] ⟨rfl,aR (zpZ a k).symm,tV⟩,rfl,.refl⟩
def zoq(q more:LU)(x:Pt):kz q (more++[x])=y8 (kz q more) x:=by unfold kz;rw[KX];rfl
def zfu(c:LU)(f t:Int)(n:Nat):zfW c f t (n+1)=zfW c f t n++if f<atS c n/\atS c n<t then[nth c n] else[]:=by
 unfold zfW;rw[KH,Km,Xz];congr 1
 by_cases h:f<atS c n/\atS c n<t
 .rw[Xe h,List.filter_cons_of_pos (by simpa using h)];rfl
 rw[Xc h,List.filter_cons_of_neg (by simpa using h)];rfl
def zck(c:LU)(f t:Int)(n:Nat):LU:=kz [] ([zdQ c f]++zfW c f t n)
variable{f:Int}
def zsG{t:Int}{n:Nat}(h:f<atS c n/\atS c n<t):zck c f t (n+1)=y8 (zck c f t n) (nth c n):=by
 unfold zck;rw[zfu,Xe h,←XL,zoq]
def zwk{t:Int}{n:Nat}(h:¬(f<atS c n/\atS c n<t)):zck c f t (n+1)=zck c f t n:=by
 unfold zck;rw[zfu,Xc h,XE]
def zsH(c:LU)(f t:Int):vt c f t=y8 (zck c f t (c.length-1)) (zdQ c t):=by
 unfold vt zck;rw[zoq]
def zsI(c:LU)(f t:Int)(n:Nat):0<(zck c f t n).length/\(zck c f t n).length<=n+1:=by
 induction n with
 |zero=>exact⟨XZ 0,Xj 1⟩
 |succ n a=>
  by_cases h:f<atS c n/\atS c n<t
  .rw[zsG h];have b:=zhA (zck c f t n) (nth c n);refine⟨?_,oM⟩;unfold y8
   split
   .exact a.1
   simp
  rw[zwk h];omega
def zqe(c:LU)(f t:Int):0<(vt c f t).length/\(vt c f t).length<=c.length+2:=by
 rw[zsH];have h:=zsI c f t (c.length-1);have a:=zhA (zck c f t (c.length-1)) (zdQ c t);refine⟨?_,oM⟩;unfold y8
 split
 .exact h.1
 simp
def zFZ(q:Pl)(f t:Int)(k:q.pts.length<=4096)(j:2<=(zZ q).length)(m:0<=f/\f<=70368744177664)(ht:0<=t/\t<=70368744177664):CX 251 [.agg (meE (meQ q)),i64 f,i64 t] (.sl ptE (vt (zZ q) f t)):=by
 refine zc func251 ?_;have ll:=jQ q;have tl:(meQ q).ts.length=(zZ q).length-1:=zkp ..;refine wg (zwj q f k j m)<|⟨Pt,ptE,[zdQ (zZ q) f],rfl,wb0 ?_⟩;intro n;refine⟨Nat,λi=>⟨[(1,i64 f),(2,i64 t),(3,.loc 0 0),(7,.loc 1 0),(8,.fn 317 [.loc 1 0]),(17,.sl zN (meQ q).ts),(18,i64 ((meQ q).ts.length:Int)),(19,i64 i)],[(0,.box 268 (meE (meQ q))),(1,.box 156 [.own 2]),(2,.arr 28 ptE 2 (zck (zZ q) f t i))],3,46,0⟩,λi=>i<=(zZ q).length-1,λi=>(zZ q).length-i,0,?_,?_,?_⟩
 .exact Xh _
 .exact zf [0,2,1]
 rintro i hi
 have cl:=zsI (zZ q) f t i;refine⟨λg:(i:Int)<((meQ q).ts.length:Int)=>?_,λg:¬(i:Int)<((meQ q).ts.length:Int)=>?_⟩
 .have stay:¬(f<atS (zZ q) i/\atS (zZ q) i<t)->zck (zZ q) f t i=zck (zZ q) f t (i+1):=λh=>(zwk h).symm
  refine wb λy d=>?_;have d:=zi3 (show(tsL (zZ q) ((zZ q).length-1))[i]?=some y from d);refine⟨λa=>Br.mk (λb=>?_) (λb=>?_),λa=>?_⟩;rotate_left
  .have b:¬y<t:=b;exact wa<|⟨i+1,oM,zt [0,1,2] ⟨rfl,rfl,aR (stay λh=>b (by rw[d];exact h.2)),tV⟩,oN⟩
  .have a:¬f<y:=a;exact wa<|⟨i+1,oM,zt [0,1,2] ⟨rfl,rfl,aR (stay λh=>a (by rw[d];exact h.1)),tV⟩,oN⟩
  have a:f<y:=a;have b:y<t:=b;rw[d]at a b;refine Ob.mk (show 0<=(i:Int)/\(i:Int)<(q.pts.length:Int) by omega) λx e=>?_;have e:=qx (show q.pts[i]?=some x from e);rw[←zbK (q:=q) (i:=i) oM]at e
  refine zb.give [1,2] 1 [wk x,.loc 0 0] [(0,.box 156 [.own 1]),(1,.arr 28 ptE 2 (zck (zZ q) f t i))] [(0,.box 156 [.own 2]),(2,.arr 28 ptE 2 (y8 (zck (zZ q) f t i) x))] (.tup []) (zBJ (zck (zZ q) f t i) x ⟨cl.1,oM⟩)
   LEs.refl rfl rfl rfl ⟨⟨_,rfl,rfl,rfl⟩,⟨_,rfl,rfl,tV⟩,tV⟩ rfl ⟨⟨rfl,rfl⟩,⟨rfl,tV⟩,tV⟩ ?_
  exact wa<|⟨i+1,oM,zt [0,1,3] ⟨rfl,rfl,aR (by rw[zsG ⟨a,b⟩,e]),tV⟩,oN⟩
 have ei:i=(zZ q).length-1:=oM;refine wg (zwj q t k j ht) ?_
 refine zb.give [1,2] 1 [wk (zdQ (zZ q) t),.loc 0 0] [(0,.box 156 [.own 1]),(1,.arr 28 ptE 2 (zck (zZ q) f t i))] [(0,.box 156 [.own 2]),(2,.arr 28 ptE 2 (y8 (zck (zZ q) f t i) (zdQ (zZ q) t)))] (.tup []) (zBJ (zck (zZ q) f t i) (zdQ (zZ q) t) ⟨cl.1,oM⟩)
  LEs.refl rfl rfl rfl ⟨⟨_,rfl,rfl,rfl⟩,⟨_,rfl,rfl,tV⟩,tV⟩ rfl ⟨⟨rfl,rfl⟩,⟨rfl,tV⟩,tV⟩ ?_
 refine z6 ?_;rw[zsH,ei]
def zcN(t:AF)(p:Pt)(ht:t.le 100000):CX 222 [wo t,wk p] (.tup [wk (ku t p).1,i64 (ku t p).2]):=by
 obtain⟨A,B,C,D,E,F⟩:=ht;refine zc func222 ?_;have g:∀(q:Pt) (n:Int),(ku t p)=(q,n)->LE (.tup [wk q,i64 n]) (.tup [wk (ku t p).1,i64 (ku t p).2]):=λq n h=>by rw[h];exact .refl
 refine wg (zcC t ⟨oM,oM,oM,oM,oM,oM⟩)<|⟨λj=>?_,λj=>?_⟩
 .exact g zp 5 (by rw[ku,Xe j])
 refine wg (ki p)<|⟨λk=>?_,λk=>?_⟩
 .exact g zp 6 (by rw[ku,Xc j,Xe k])
 have v:zm p:=XS k;have w:R64 p.x:=by unfold R64;unfold zm at v;omega
 have z:R64 p.y:=by unfold R64;unfold zm at v;omega
 have lx:=zek p.x;have ly:=zek p.y;have zx:=jw w;have zy:=jw z;refine wc<|wg (yH p.x w)<|wg (yH p.y z)<|wg (zxJ t (ofQ (p.x:Rat)) (ofQ (p.y:Rat)) ⟨oM,oM,oM,oM,oM,oM⟩ (by rw[zF];omega) (by rw[zF];omega)) ?_;rw[ky,ky];have lX:=qX t.a (ofQ (p.x:Rat)) t.c (ofQ (p.y:Rat)) t.e (n:=100000) A (by rw[zF];omega) C (by rw[zF];omega) E;have lY:=qX t.b (ofQ (p.x:Rat)) t.d (ofQ (p.y:Rat)) t.f (n:=100000) B (by rw[zF];omega) D (by rw[zF];omega) F;rw[ky,ky]at lX lY
 have lh:y4 (Rat.divInt 1 2)<=1:=by decide +kernel
 have mX:=zbC (vX t p.x p.y) (Rat.divInt 1 2);have mY:=zbC (vY t p.x p.y) (Rat.divInt 1 2);have lX2:y4 (vX t p.x p.y)<=500007:=lX.2;have lY2:y4 (vY t p.x p.y)<=500007:=lY.2
 have fl:∀q:Rat,jx q.floor<=y4 q:=λq=>XC (zcx (by
  rw[Yo]
  exact Jb _ _)) (qE q)
 have fX:=fl (vX t p.x p.y+Rat.divInt 1 2);have fY:=fl (vY t p.x p.y+Rat.divInt 1 2);refine wg (zrK 1 2 dC dC dC)<|wg (zel (ofQ (vX t p.x p.y)) (ofQ (Rat.divInt 1 2)) (by rw[zF];omega) (by rw[zF];omega)) ?_;rw[ky,ky];refine wg (zrL (ofQ (vX t p.x p.y+Rat.divInt 1 2)) (by rw[zF];omega)) ?_;rw[ky];refine wg (zlm (ofZ (vX t p.x p.y+Rat.divInt 1 2).floor) (by rw[zW];omega))<|wg (zel (ofQ (vY t p.x p.y)) (ofQ (Rat.divInt 1 2)) (by rw[zF];omega) (by rw[zF];omega)) ?_;rw[ky,ky]
 refine wg (zrL (ofQ (vY t p.x p.y+Rat.divInt 1 2)) (by rw[zF];omega)) ?_;rw[ky];refine wg (zlm (ofZ (vY t p.x p.y+Rat.divInt 1 2).floor) (by rw[zW];omega)) ?_;rw[z5,z5];obtain⟨X,hX⟩:∃X,(vX t p.x p.y+Rat.divInt 1 2).floor=X:=⟨_,rfl⟩;obtain⟨Vc,hY⟩:∃Vc,(vY t p.x p.y+Rat.divInt 1 2).floor=Vc:=⟨_,rfl⟩;have u:goP t p=⟨X,Vc⟩:=by unfold goP;rw[hX,hY]
 rw[hX,hY];have out:¬zm ⟨X,Vc⟩->ku t p=(zp,6):=λh=>by rw[ku,Xc j,Xc k,Xc (by rw[u];exact h)]
 have inn:zm ⟨X,Vc⟩->ku t p=(⟨X,Vc⟩,0):=λh=>by rw[ku,Xc j,Xc k,Xe (by rw[u];exact h),u]
 have big:zm ⟨X,Vc⟩->(-9223372036854775808<=X/\X<=9223372036854775807)/\(-9223372036854775808<=Vc/\Vc<=9223372036854775807):=λh=>by unfold zm at h;dsimp only at h;omega
 refine⟨λm=>?_,λm=>?_⟩
 .exact g zp 6 (out λh=>m (big h).1)
 have m:=XS m;refine⟨λo=>?_,λo=>?_⟩
 .exact g zp 6 (out λh=>o (big h).2)
 have o:=XS o;refine wg (ki ⟨ub X,ub Vc⟩) ?_;rw[ub,Xe m,ub,Xe o];refine⟨λs=>?_,λs=>?_⟩
 .exact g zp 6 (out s)
 exact g ⟨X,Vc⟩ 0 (inn (XS s))
def zou(t:AF){s:Sg}(e:zdP s):zah t s=zfX (λp=>(ku t p).1) s:=by
 unfold zah;obtain⟨d,b,a⟩:=e;have g:=zeq s.v;have k:nm s.v<=0∨nm s.v=1∨nm s.v=2∨nm s.v=3:=oM;unfold kE zfX zlF part
 rcases k with k|k|k|k
 .rw[show(nm s.v).toNat=0 by omega,d.2 oM,b.2 oM,a.2 oM];rfl
 .rw[show(nm s.v).toNat=1 by omega,b.2 oM,a.2 oM];rfl
 .rw[show(nm s.v).toNat=2 by omega,a.2 oM];rfl
 rw[show(nm s.v).toNat=3 by omega];rfl
variable{l:LX}
def zi8{t:AF}(g:qU l){x:Sg}{p:Pt}{k:Nat}(e:ja t (qk (l.take i))=0)(n:l[i]?=some x)(j:ja t ((kE x).take k)=0)(m:(kE x)[k]?=some p)(a:(ku t p).2≠0):trans t l=([],(ku t p).2):=by
 have b:=(vJ j m).2 a
 have d:ja t (qk l)=(ku t p).2:=by
  have h:=zhk n
  have:qk l=qk (l.take i)++(kE x++qk (l.drop (i+1))):=by
   conv=>lhs;rw[←Ku i l,h]
   simp[qk]
  rw[this,jO,e];simp only[ne_eq,not_true_eq_false,if_false];rw[jO,b,Xe a]
 rw[trans,Xc (λk=>k g),d,Xe a]
def zyy{t:AF}{x:Sg}(a:ja t (qk (l.take i))=0)(d:l[i]?=some x)(b:ja t (kE x)=0):ja t (qk (l.take (i+1)))=0:=by
 rw[zjF d,jO,a];simpa using b
def zBV(l:LX)(t:AF)(ht:t.le 100000):CX 154 [.sl sgE l,wo t] (.tup [.sl sgE (trans t l).1,i64 (trans t l).2]):=by
 refine zc func154 ?_
 have o:∀e:Int,trans t l=([],e)->LE (.tup [nS,i64 e]) (.tup [.sl sgE (trans t l).1,i64 (trans t l).2]):=λe h=>by
  rw[h];exact zP zD .refl
 refine wg (zhl l)<|⟨λB=>?_,λB=>?_⟩
 .exact o 10 (by rw[trans,Xe B])
 have h:=Xa.1 B;have H:=ziI h;refine⟨Sg,sgE,[],rfl,wb2 ?_⟩
 refine⟨Nat,λi=>⟨[(7,i64 i),(6,.own 1),(3,.loc 0 0),(0,.sl sgE l)],[(1,.arr 62 sgE 7 ((l.take i).map (zah t))),(0,.box 51 (afE t))],2,67,0⟩,λi=>i<=l.length/\ja t (qk (l.take i))=0,λi=>l.length-i,0,⟨Xh _,rfl⟩,
  zf [0,1],?_⟩
 rintro i ⟨hil0,m⟩
 intro _;refine⟨λA:(i:Int)<l.length=>?_,λA=>?_⟩
 .have n:=Xb (show i<l.length by omega);generalize l[i]'oM=x at n;have D:=zA4 h (Xf n);have G:=zeq x.v;refine Ob.mk ⟨oM,A⟩ λy(q:l[i]?=some y)=>?_;rw[n]at q;cases q
  refine wg (zvS x) ?_;have F:((l.take i).map (zah t)).length<=256:=by simp;omega
  refine⟨Nat,λk=>⟨[(9,i64 k),(8,.loc 2 0),(7,i64 i),(6,.own 1),(3,.loc 0 0),(0,.sl sgE l)],[(2,.box 239 (ptE (part (λp=>(ku t p).1) k x).a++ptE (part (λp=>(ku t p).1) k x).b++ptE (part (λp=>(ku t p).1) k x).c)),(1,.arr 62 sgE 7 ((l.take i).map (zah t))),(0,.box 51 (afE t))],3,67,0⟩,
   λk=>k<=(nm x.v).toNat/\ja t ((kE x).take k)=0,λk=>3-k,0,⟨Xh _,rfl⟩,zf [0,1,2],?_⟩
  rintro k ⟨E,g⟩
  refine Ob.mk ⟨oM,A⟩ λy(q:l[i]?=some y)=>?_;rw[n]at q;cases q
  refine wg (zrP x.v)<|⟨λu=>?_,λu=>?_⟩
  .have u:(k:Int)<nm x.v:=u;have j:=zG0 (s:=x) u;have e:k=0∨k=1∨k=2:=oM
   rcases e with rfl|rfl|rfl
   .refine wc<|wg (zcN t x.a ht)<|⟨λd=>o _ (zi8 h m n g j d),λd=>?_⟩;have d:(ku t x.a).2=0:=XS d;exact Ar.fit dC<|⟨1,⟨by show 1<=_;omega,(vJ g j).1 d⟩,zf [0,1,2],dC⟩
   .refine wc<|wg (zcN t x.b ht)<|⟨λd=>o _ (zi8 h m n g j d),λd=>?_⟩;have d:(ku t x.b).2=0:=XS d;exact Ar.fit dC<|⟨2,⟨by show 2<=_;omega,(vJ g j).1 d⟩,zf [0,1,2],dC⟩
   refine wc<|wg (zcN t x.c ht)<|⟨λd=>o _ (zi8 h m n g j d),λd=>?_⟩;have d:(ku t x.c).2=0:=XS d;exact Ar.fit dC<|⟨3,⟨by show 3<=_;omega,(vJ g j).1 d⟩,zf [0,1,2],dC⟩
  have u:¬(k:Int)<nm x.v:=u;have C:k=(nm x.v).toNat:=oM
  have hall:(kE x).take k=kE x:=by
   rw[Xi];unfold kE;simp;omega
  rw[hall]at g;refine wc<|Ob.mk ⟨oM,A⟩ λy(q:l[i]?=some y)=>?_;rw[n]at q;cases q
  refine⟨Sg,sgE,[part (λp=>(ku t p).1) k x],rfl,wb0 ?_⟩;refine⟨[part (λp=>(ku t p).1) k x],rfl,Ob.mk ⟨(by show _*(56:Int)<=_;simp only[Xm,Xo];omega),(by simp only[Xm,Xo];omega),dC,λ_ _=>rfl⟩ ?_⟩;exact wa<|⟨i+1,⟨by show i+1<=_;omega,zyy m n g⟩,zt [0,4] ⟨aR (by rw[Xn,n,C];simp[zou t D,zfX]),rfl,tV⟩,oN⟩
 have w:i=l.length:=by omega
 rw[w,Kc]at m;have z:trans t l=(l.map (zah t),0):=by rw[trans,Xc B,m,Xc (λk=>k rfl)]
 rw[show(trans t l).1=(l.take i).map (zah t) by rw[z,w,Kc],show(trans t l).2=0 by rw[z]];exact zP .refl .refl
instance (t:AF) (n:Nat):Decidable (t.le n):=wi
def ua(p:Nat×SV):Nat×SV:=
 match p.2 with
 |.loc k o=>(p.1,.loc k o)
 |_=>(p.1,.junk)
def zhN:∀(L:LP) (t:Nat) (s:SV),kw (L.map ua) t=some s->s=.junk∨∃k o,s=.loc k o/\kw L t=some (.loc k o)
 |[],t,s,h=>by simp[kw]at h
 |(d,s0)::L,t,s,h=>by
  have e:(((d,s0)::L).map ua)=(d,(ua (d,s0)).2)::L.map ua:=by
   simp only[Qu];congr 1;unfold ua;dsimp only;split <;> rfl
  rw[e,zV]at h
  split at h
  .rename_i a
   cases h
   unfold ua;dsimp only
   split
   .rename_i k o;exact .inr ⟨k,o,rfl,by rw[zV,Xe a]⟩
   exact .inl rfl
  rename_i a
  rcases zhN L t s h with h|⟨k,o,b,g⟩
  .exact .inl h
  exact .inr ⟨k,o,b,by rw[zV,Xc a,g]⟩
def zBW:SV->Bool
 |.loc _ _=>true
 |_=>false
def zF1(K:St->Prop):LH
 |.exit _,_=>False
 |.normal,O=>K O
 |.ret,O=>K O
def zwr(n:Nat)(P:Program)(I:LS)(fn cfn:Func)(cc:Code)(caps:LR)(r:SV)(O3:St):Prop:=
 Nat.beq O3.M.length O3.nk=true/\js P I cc ⟨qG 0 caps,O3.M,O3.M.length,cfn.ntmps,O3.M.length⟩ (zF1 λO4=>zaw O4 I cfn.results.toList λ_=>
  zaw ⟨O3.L.map ua,O4.M,O4.nk,O3.nt,0⟩ I fn.results.toList λs=>LE (zgt (zO O4.M) n s) r)
def zEA(n:Nat)(P:Program)(I:LS)(fn cfn:Func)(cc:Code)(caps:LR)(r:SV)(O3:St):Prop:=∃O',Sub O3 O'/\zwr n P I fn cfn cc caps r O'
def zHD(n:Nat)(P:Program)(I:LS)(fn cfn:Func)(cf:FuncId)(t:Tmp)(rest cc:Code)(r:SV)(O2:St):Prop:=
 ∃caps,kw O2.L t=some (.fn cf caps)/\Nat.ble caps.length cfn.ntmps=true/\caps.all zBW=true/\js P I rest ⟨O2.L,O2.M,O2.nk,O2.nt,O2.nk⟩ (zF1 (zEA n P I fn cfn cc caps r))
def vcDf(n:Nat)(P:Program)(I:LS)(fn cfn:Func)(cf:FuncId)(cc:Code)(r:SV):Nat->Code->St->Prop
 |0,c,O=>∃id b a rest t,c=.seq (.region id #[b,a] false) rest/\a.op=.defer ⟨.value (.tmp t),#[],#[]⟩/\a.guard=none/\a.dst=none/\
   vh P I false [b,a] [b] 0 O (zHD n P I fn cfn cf t rest cc r)
 |k+1,c,O=>∃x y,c=.seq x y/\js P I x O λe O=>match e with
   |.normal=>vcDf n P I fn cfn cf cc r k y O
   |.ret=>zaw O I fn.results.toList λs=>LE (zgt (zO O.M) n s) r
   |.exit _=>False
variable{r:SV}
def zBX{E:Env}{M:LT}{Z:zh}{w:World}{n:Nat}{s:SV}{v:Value}(y:zI E.Keep M Z w)(o:LE (zgt (zO M) n s) r)(q:G (λb=>E.Keep b∨Own M Z b) (Own M Z) Z w s v):G (λb=>E.Keep b∨Own [] Z b) (Own [] Z) Z w r v:=by
 have p:∀{s:SV} {v:Value},G (λb=>E.Keep b∨Own M Z b) (Own M Z) Z w s v->D (λb=>E.Keep b∨Own [] Z b) w (frz (zO M) n s) v:=λh=>
  (zlZ (λk m h=>zu h) y n h).less λb u=>u.resolve_right zK
 refine o _ _ _ _ _ ?_;unfold zgt
 split
 .rename_i t;obtain⟨vs,rfl,a⟩:=q.tup_inv;refine .tup _ vs (by rw[Xv];exact a.1) λj s v e z=>?_
  rw[XD]at e
  cases g:t[j]? with
  |none=>simp[g]at e
  |some c=>
   simp[g]at e;subst e;exact .d _ _ (p (a.2 j c v g z))
 exact .d _ _ (p q)
def zsQ{n:Nat}{P:Program}{I:LS}(hT:TOK P I)(hm:P.follows .mixedOrders=true){cf:FuncId}{fn cfn:Func}{cc:Code}{r:SV}(Y:P.funcs[cf]?=some cfn)(X:cfn.body=some cc)(hcn:(cfn.name== "runtime.NumGoroutine")=false) {Keep:LI} {Z:zh} {w:World} (hk:∀b,Keep b->b<w.heap.size) (hρ:∀k,0<=k->Z k=none) {RF:Ending->World->Prop}
  (hRF:∀e w',RF e w'↔∃v Z',e=.returned v/\Stp (Own [] Z) (Own [] Z') Z Z' w w'/\zI Keep [] Z' w'/\G (λb=>Keep b∨Own [] Z' b) (Own [] Z') Z' w' r v):
  ∀(k:Nat) (c:Code) {O1:St} {Z1:zh} {a1:Act} {w1:World},Rel ⟨w,Z,Keep,Own [] Z,[]⟩ O1 Z1 a1 w1->vcDf n P I fn cfn cf cc r k c O1->c.wp P (bodyPostD P fn RF) a1 w1
 |k+1,c,O1,Z1,a1,w1,C,h=>by
  obtain⟨x,y,rfl,h⟩:=h;refine wp_seq (Code.wp_mono (λe A F B=>?_) (kR hT hm x C h))
  cases e with
  |normal=>obtain⟨O,Z',U,h2⟩:=B;exact zsQ hT hm Y X hcn hk hρ hRF k y h2 U
  |ret=>
   obtain⟨O,Z',U,hr⟩:=B;obtain⟨s,hles,h8⟩:=jj hT U;obtain⟨v,z,hgv⟩:=h8 hr;have g:=hr.stp;show Leaves P fn A.tmps RF A.defers .returning F;have hd0:A.defers=[]:=hr.defers;rw[hd0];refine⟨v,z,(hRF _ _).2 ⟨v,Z',rfl,?_,(qu hr.mem.kp λ_ _ h=>hr.mem.glc h),zBX hr.mem hles hgv⟩⟩;exact⟨g.os,g.tape,g.output,g.size,λb V hn=>g.block b V λh=>hn h,λb V=>absurd V zK,g.rho⟩
  |exit id=>obtain⟨O,Z',U,_⟩:=B;exact U.elim
  |_=>exact B.elim
 |0,c,O1,Z1,a1,w1,C,h=>by
  obtain⟨id,E,o2,rest,t,rfl,ho,hg,hd,U⟩:=h;refine wp_seq (wp_region_list ?_);obtain⟨O',run,svs,s,T,h2,hgd,href,hdst,hrun⟩:=zg6 hT C U
  have hr1':Rel ⟨w,Z,Keep,Own [] Z,[]⟩ O' Z1 a1 w1:=by
   rcases href with rfl|⟨t,s0,s1,q2,q3,rfl⟩
   .exact C
   exact C.refine q2 q3
  have hnt:O'.nt=O1.nt:=by rcases href with rfl|⟨t,s0,s1,q2,q3,rfl⟩ <;> rfl
  have go2:∀{Z2:zh} {A:Act} {F:World} {Q:LF},(∀a w,rest.wp P (bodyPostD P fn RF) a w->Q .normal a w)->Rel ⟨w,Z,Keep,Own [] Z,[]⟩ (O'.app E.dst s T) Z2 A F->
    wpList P #[E,o2] Q [o2] A F:=by
   intro Z2 A F Q hQ u;obtain⟨caps,hlt,hcle,hall,h3⟩:=h2;have hgt:=(u.regs t _ hlt).2;obtain⟨cvs,hcv,hcg⟩:=hgt.fn_inv;have hw:Region.wanted o2 (yielded (#[E,o2]:Array Oper) A.tmps)=true:=u.wanted (all:=[E,o2]) (by simp[je,hg]);unfold wpList;rw[hw];simp only[if_true];refine .inl ?_;unfold Oper.wp
   have hex:(execOp A.eval o2).run P F=.ok (.defer ⟨.fn (.func cf) cvs.toArray,#[]⟩) F:=by
    have hev:A.eval (.tmp t)=.func (.func cf) #[] cvs.toArray:=hcv;simp only[execOp,ho,resolve,hev,Deferred.ofValue,Sem.run_bind,Sem.run_pure,Result.andThen_ok];simp
   rw[hex,Oper.upon_defer,hd];refine hQ _ _ ?_;show rest.wp P _ { A with defers:=_::A.defers } F;have hd0:A.defers=[]:=u.defers;rw[hd0]
   -- the rest,with the call put off
   let E3:Env:=⟨F,Z2,Keep,Own (O'.app E.dst s T).M Z2,[⟨.fn (.func cf) cvs.toArray,#[]⟩]⟩
   have m:Rel E3 ⟨(O'.app E.dst s T).L,(O'.app E.dst s T).M,(O'.app E.dst s T).nk,(O'.app E.dst s T).nt,(O'.app E.dst s T).nk⟩ Z2 { A with defers:=[⟨.fn (.func cf) cvs.toArray,#[]⟩] } F:=
    ⟨u.size,rfl,u.regs,u.mem,u.fresh,.refl,u.mem.kp,λk v z=>by
     rcases Kf k (O'.app E.dst s T).nk with h|h
     .exact h
     have z:Z2 k=some v:=z
     rw[u.fresh k h]at z;cases z⟩
   refine Code.wp_mono (λe J w3 B=>?_) (kR hT hm rest m h3)
   have fin:∀O3 Z3,zwr n P I fn cfn cc caps r O3->Rel E3 O3 Z3 J w3->Leaves P fn J.tmps RF J.defers .returning w3:=by
    intro O3 Z3 ⟨hbeq,K⟩ m;have hlen:=Xk hbeq;have hd3:J.defers=[⟨.fn (.func cf) cvs.toArray,#[]⟩]:=m.defers;rw[hd3];have hρ3:∀k,O3.M.length<=k->Z3 k=none:=λk hk=>m.fresh k oM
    have hcg3:Gs (λb=>Keep b∨Own O3.M Z3 b) (Own O3.M Z3) Z3 w3 caps cvs:=by
     refine⟨hcg.1,λj s v S z=>?_⟩;have hl:zBW s=true:=XY.1 hall s (Xf S)
     cases s <;> try (simp[zBW]at hl)
     rename_i k off;obtain⟨b,W,rfl⟩:=(hcg.2 j _ v S z).loc_inv;exact .loc _ _ _ (m.stp.rho _ _ W)
    have hent:=yU (nt:=cfn.ntmps) m.mem hρ3 hcg3 (Xw hcle);refine leaves_cons sI (f:=cf) (args:=cvs.toArray) ?_ ?_
    .simp only[invoke,callFunc,Sem.run_bind,Sem.run_pure,Result.andThen_ok,run_program,Y,hcn,X,Option.isNone_some,KJ,if_false];simp
    refine(callsD_of_wp (R:=λe H=>∃v0,e=.returned v0/\Leaves P fn J.tmps RF [] .returning H) Y X ?_).mono ?_
    .refine Code.wp_mono (λe a4 H B=>?_) (kR hT hm cc hent K)
     have fin2:∀O4 Z4,(zaw O4 I cfn.results.toList λ_=>zaw ⟨O3.L.map ua,O4.M,O4.nk,O3.nt,0⟩ I fn.results.toList λs=>LE (zgt (zO O4.M) n s) r)->
       Rel ⟨w3,Z3,Keep,Own O3.M Z3,[]⟩ O4 Z4 a4 H->a4.defers=[]/\∃v,(results cfn a4.tmps).run P H=.ok v H/\∃v0,Ending.returned v=.returned v0/\
        Leaves P fn J.tmps RF [] .returning H:=by
      intro O4 Z4 N q;obtain⟨s0,h6,h7⟩:=jj hT N;obtain⟨v0,hv0,_⟩:=h7 q;refine⟨q.defers,v0,hv0,v0,rfl,?_⟩;have g:Stp (Own [] Z) (Own O4.M Z4) Z Z4 w H:=(u.stp.trans m.stp).trans q.stp
      have hfin:Rel ⟨w,Z,Keep,Own [] Z,J.defers⟩ ⟨O3.L.map ua,O4.M,O4.nk,O3.nt,0⟩ Z4 J H:=by
       refine⟨m.size,rfl,λt s hl=>?_,q.mem,q.fresh,g,hk,λk v z=>?_⟩
       .rcases zhN O3.L t s hl with rfl|⟨k,o,rfl,h8⟩
        .refine⟨?_,.d _ _ (.junk _)⟩
         have:∃s,kw O3.L t=some s:=by
          clear N h6 h7 K m q hent
          revert hl
          generalize O3.L=L;intro hl
          induction L with
          |nil=>simp[kw]at hl
          |cons p L ih=>
           obtain⟨d,s0⟩:=p
           by_cases hd:d=t
           .exact⟨s0,by rw[zV,Xe hd]⟩
           rw[zV,Xc hd];refine ih ?_
           have e:(((d,s0)::L).map ua)=(d,(ua (d,s0)).2)::L.map ua:=by
            simp only[Qu];congr 1;unfold ua;dsimp only;split <;> rfl
           have hl':kw (((d,s0)::L).map ua) t=some .junk:=hl;rw[e,zV,Xc hd]at hl';exact hl'
         obtain⟨s,S⟩:=this;exact(m.regs t s S).1
        obtain⟨h9,h10⟩:=m.regs t _ h8;refine⟨h9,?_⟩;obtain⟨b,W,hb2⟩:=h10.loc_inv;rw[hb2];exact .loc _ _ _ (q.stp.rho _ _ W)
       have z:Z k=some v:=z;rw[hρ k (Xh _)]at z;cases z
      obtain⟨s,hles,h8⟩:=jj hT h6;obtain⟨v,z,hgv⟩:=h8 hfin;refine⟨v,z,(hRF _ _).2 ⟨v,Z4,rfl,?_,(qu hfin.mem.kp λ_ _ h=>hfin.mem.glc h),?_⟩⟩
      .exact⟨g.os,g.tape,g.output,g.size,λb V hn=>g.block b V hn,λb V=>absurd V zK,g.rho⟩
      exact zBX hfin.mem hles hgv
     cases e with
     |normal=>obtain⟨O4,Z4,N,q⟩:=B;exact fin2 O4 Z4 N q
     |ret=>obtain⟨O4,Z4,N,q⟩:=B;exact fin2 O4 Z4 N q
     |exit id=>obtain⟨O4,Z4,N,_⟩:=B;exact N.elim
     |_=>exact B.elim
    rintro e u' H ⟨rfl,v0,rfl,hL⟩
    exact hL
   cases e with
   |normal=>obtain⟨O3,Z3,⟨O',S,K⟩,m⟩:=B;obtain⟨Z',hr'⟩:=S _ _ _ _ m;exact fin O' Z' K hr'
   |ret=>obtain⟨O3,Z3,⟨O',S,K⟩,m⟩:=B;obtain⟨Z',hr'⟩:=S _ _ _ _ m;exact fin O' Z' K hr'
   |exit id=>obtain⟨O3,Z3,K,_⟩:=B;exact K.elim
   |_=>exact B.elim
  unfold wpList;rw[hr1'.wanted hgd]
  obtain⟨rfl,g⟩|⟨rfl,rfl,rfl⟩:=hrun
  .simp only[if_true];refine .inl ((g.does hr1').wp λv w' ha=>?_);obtain⟨Z',D⟩:=hr1'.app (λt e=>hnt ▸ hdst t e) ha;exact go2 (λ_ _ h=>h) D
  simp only[KJ,if_false];obtain⟨Z',D⟩:=hr1'.app (λt e=>hnt ▸ hdst t e) (u0 hr1'.mem);exact go2 (λ_ _ h=>h) D
def zov(n k:Nat){P:Program}{I:LS}(hT:TOK P I)(y:P.follows .mixedOrders=true){f cf:FuncId}{fn cfn:Func}{c:Code}{args:LR}{cc:Code}(t:P.funcs[f]?=some fn)(s:fn.body=some c)(z:(fn.name== "runtime.NumGoroutine")=false)
  (q:Nat.ble args.length fn.ntmps=true) (m:P.funcs[cf]?=some cfn) (j:cfn.body=some cc) (o:(cfn.name== "runtime.NumGoroutine")=false)
  (h:vcDf n P I fn cfn cf cc r k c ⟨qG 0 args,[],0,fn.ntmps,0⟩):kL P f args [] r []:=by
 refine⟨⟨fn,t,z,by rw[s];rfl⟩,λKeep Z w vs u a g p=>?_⟩;have hRF:∃RF:Ending->World->Prop,∀e w',RF e w'↔∃v Z',e=.returned v/\Stp (Own [] Z) (Own [] Z') Z Z' w w'/\zI Keep [] Z' w'/\G (λb=>Keep b∨Own [] Z' b) (Own [] Z') Z' w' r v:=⟨_,λ_ _=>Qk⟩;obtain⟨RF,hRF⟩:=hRF;refine Calls.mono ?_ λe w' h=>(hRF e w').1 h
 refine calls_of_wp_defers t s ?_;have d:=yU (nt:=fn.ntmps) a g p (Xw q);exact zsQ hT y m j o u g hRF k c d h
structure Pix where
 r:Int
 g:Int
 b:Int
 a:Int
 deriving DecidableEq
def zcl(p:Pix):LR:=[u8 p.r,u8 p.g,u8 p.b,u8 p.a]
structure Img where
 w:Int
 h:Int
 px:List Pix
 deriving DecidableEq
def zi9(m:Img):LR:=[i64 m.w,i64 m.h,.sl zcl m.px]
def zgF(p:Pix):Prop:=p.r<=p.a/\p.g<=p.a/\p.b<=p.a
instance (p:Pix):Decidable (zgF p):=wi
def zf1(m:Img):Prop:=(1<=m.w/\m.w<=4096)/\(1<=m.h/\m.h<=4096)/\m.w*m.h<=65536/\(m.px.length:Int)=m.w*m.h/\∀p∈m.px,zgF p
instance (m:Img):Decidable (zf1 m):=wi
def zhS(x r g b a:Int):CX 401 [u8 x,.ptr [u8 r,u8 g,u8 b,u8 a]] (u8 (min x a)):=by
 exact zc func401<|ze rfl
def zHF(p:Pix)(r g b a:Int):CX 400 [.agg (zcl p),.fn 401 [.ptr [u8 r,u8 g,u8 b,u8 a]]] (.agg [u8 (min p.r a),u8 (min p.g a),u8 (min p.b a),u8 (min p.a a)]):=by
 refine zc func400<|wc<|wg (zhS _ r g b a)<|wg (zhS _ r g b a)<|wg (zhS _ r g b a)<|wg (zhS _ r g b a) ?_;exact .refl
def zBY(p:Pix):CX 340 [.agg (zcl p)] (.agg [u8 (min p.r p.a),u8 (min p.g p.a),u8 (min p.b p.a),u8 (min p.a p.a)]):=by
 exact zc func340<|wg (zHF p p.r p.g p.b p.a)<|.refl
def zBZ(p:Pix):CX 278 [.agg (zcl p)] (pr (zgF p)):=by
 refine zc func278<|wc<|wg (zBY p)<|zC (p:=min p.r p.a=p.r/\min p.g p.a=p.g/\min p.b p.a=p.b/\min p.a p.a=p.a/\True) ?_;constructor
 .rintro⟨d,e,h,_⟩
  exact⟨oM,oM,oM⟩
 rintro⟨d,e,h⟩
 exact⟨oM,oM,oM,oM,tV⟩
def zyB(p:Pix):CX 277 [.agg (zcl p)] (pr (¬zgF p)):=by
 exact zc func277<|wg (zBZ p)<|zC Qk
def zgG(xs:List Pix):Int:=match xs.findIdx? (λp=>decide (¬zgF p)) with
 |some i=>i
 |none=> -1
def zyC{xs:List Pix}{i:Nat}{p:Pix}(h:∀(j:Nat) q,j<i->xs[j]?=some q->zgF q)(hi:xs[i]?=some p)(e:¬zgF p):zgG xs=i:=by
 have:xs.findIdx? (λp=>decide (¬zgF p))=some i:=by
  rw[KS];obtain⟨d,a⟩:=Xd.1 hi;refine⟨d,by simp[a,e],λj b=>?_⟩;have:=h j xs[j] b (Xb _);simp[this]
 simp only[zgG,this]
variable{xs:List Pix}
def zjP(h:∀p∈xs,zgF p):zgG xs= -1:=by
 have:xs.findIdx? (λp=>decide (¬zgF p))=none:=by
  rw[KE];intro p a;simp[h p a]
 simp only[zgG,this]
def znh:0<=zgG xs↔¬∀p∈xs,zgF p:=by
 constructor
 .intro h hall;rw[zjP hall]at h;omega
 intro h;unfold zgG
 split
 .omega
 rename_i a;rw[KE]at a;exact absurd (λp b=>by simpa using a p b) h
def zEF(xs:List Pix)(u:xs.length<=9223372036854775807):CX 339 [.sl zcl xs,.fn 277 []] (i64 (zgG xs)):=by
 refine zc func339 λn=>?_;refine⟨Int,λi=>⟨[(8,i64 i),(7,i64 xs.length),(0,.sl zcl xs),(1,.fn 277 [])],[],0,19,0⟩,λi=>0<=i/\i<=xs.length/\∀(j:Nat) q,(j:Int)<i->xs[j]?=some q->zgF q,λi=>((xs.length:Int)-i).toNat,0,?_,?_,?_⟩
 .exact⟨oM,oM,λj q a=>by omega⟩
 .exact zB []
 rintro i ⟨s,t,b⟩
 refine⟨λk=>?_,λk=>?_⟩
 .refine wb λx h=>wg (zyB x)<|⟨λd=>?_,λd=>?_⟩
  .refine ze ?_;rw[zyC (i:=i.toNat) (λj q a=>b j q oM) h d];omega
  refine wa<|⟨i+1,⟨oM,oM,λj q a g=>?_⟩,zB [],oN⟩
  by_cases e:j=i.toNat
  .subst e;rw[h]at g;cases g;exact Xa.1 d
  exact b j q oM g
 refine ze (zjP λp o=>?_).symm;obtain⟨j,a,m⟩:=Kw o;exact b j p oM (by rw[←m];exact Xb a)
def zuN(xs:List Pix)(a:xs.length<=9223372036854775807):CX 276 [.sl zcl xs,.fn 277 []] (pr (¬∀p∈xs,zgF p)):=by
 exact zc func276<|wg (zEF xs a)<|zC znh
def zF2(n:Int):CX 275 [i64 n] (pr (1<=n/\n<=4096)):=by
 refine zc func275<|Br.mk (λh=>?_) (λh=>?_)
 .exact zC oM
 exact zd oM
def zB0{a b A B:Int}(e:0<=a)(g:a<=A)(d:0<=b)(h:b<=B):0<=a*b/\a*b<=A*B:=
 ⟨XI e d,J5 g h d oM⟩
def zow(m:Img)(j:m.px.length<=9223372036854775807):CX 210 [.agg (zi9 m)] (pr (zf1 m)):=by
 refine zc func210<|wg (zF2 m.w)<|⟨λa=>?_,λa=>?_⟩
 .exact zd (λh=>a h.1)
 have a:=Xa.1 a;refine wg (zF2 m.h)<|⟨λb=>?_,λb=>?_⟩
 .exact zd (λh=>b h.2.1)
 have b:=Xa.1 b;have n:=zB0 (show 0<=m.w by omega) a.2 (show 0<=m.h by omega) b.2;refine wa<|Br.mk (λg=>?_) (λg=>?_)
 .exact zd (λh=>by have:=h.2.2.1;omega)
 intro k;refine wa<|Br.mk (λd=>?_) (λd=>?_)
 .exact zd (λh=>d h.2.2.2.1)
 exact wg (zuN m.px j)<|zC<|⟨λh=>⟨a,b,oM,Xa.1 d,Xa.1 h⟩,λh e=>e h.2.2.2.2⟩
def zHG(w h:Int):CX 197 [i64 w,i64 h] (pr ((1<=w/\w<=4096)/\(1<=h/\h<=4096)/\w*h<=65536)):=by
 refine zc func197<|Br.mk (λd=>?_) (λd=>zd oM);refine⟨λa=>?_,λa=>zd oM⟩;refine⟨λe=>?_,λe=>zd oM⟩;refine⟨λb=>?_,λb=>zd oM⟩;have g:=zB0 (show 0<=w by omega) a (show 0<=h by omega) b;exact wa<|zC ⟨λh=>⟨⟨d,a⟩,⟨e,b⟩,h⟩,λh=>h.2.2⟩
def zyD(p:Pix):CX 198 [.agg (zcl p)] (pr (zgF p)):=by
 refine zc func198<|Br.mk (λa=>?_) (λa=>zd (λh=>a h.1));refine⟨λb=>?_,λb=>zd (λh=>b h.2.1)⟩;exact zC ⟨λh=>⟨a,b,h⟩,λh=>h.2.2⟩
def zml(m:Img):CX 135 [.agg (zi9 m)] (pr (zf1 m)):=by
 refine zc func135<|wg (zHG m.w m.h)<|⟨λa=>zd (λh=>a ⟨h.1,h.2.1,h.2.2.1⟩),λa=>?_⟩;have a:=Xa.1 a;have B:=zB0 (show 0<=m.w by omega) a.1.2 (show 0<=m.h by omega) a.2.1.2;intro u;refine wa<|Br.mk (λb=>zd (λh=>b h.2.2.2.1)) (λb=>?_);have b:=Xa.1 b
 refine⟨Int,λi=>⟨[(3,i64 i),(1,.loc 0 0)],[(0,.box 58 (zi9 m))],1,35,0⟩,λi=>0<=i/\i<=m.px.length/\∀(j:Nat) q,(j:Int)<i->m.px[j]?=some q->zgF q,λi=>((m.px.length:Int)-i).toNat,0,?_,?_,?_⟩
 .exact⟨oM,oM,λj q g=>by omega⟩
 .exact zf [0]
 rintro i ⟨z,A,n⟩
 intro v;refine⟨λs=>?_,λs=>?_⟩
 .refine wb λx o=>wg (zyD x)<|⟨λd=>?_,λd=>?_⟩
  .exact zd λh=>d (h.2.2.2.2 x (Xf o))
  refine wa<|⟨i+1,⟨oM,oM,λj q g k=>?_⟩,zf [0],oN⟩
  by_cases e:j=i.toNat
  .subst e;rw[o]at k;cases k;exact Xa.1 d
  exact n j q oM k
 refine zH ⟨a.1,a.2.1,a.2.2,b,λp y=>?_⟩;obtain⟨j,g,t⟩:=Kw y;exact n j p oM (by rw[←t];exact Xb g)
def zmm{p q:Pix}:(p.r=q.r/\p.g=q.g/\p.b=q.b/\p.a=q.a/\True)↔p=q:=by
 cases p;cases q;simp
def zEG{ys:List Pix}{i:Int}(b:(xs.length:Int)=ys.length)(hi:¬i<xs.length)(h:∀j:Nat,(j:Int)<i->xs[j]?=ys[j]?):xs=ys:=by
 refine KA λj=>?_
 by_cases a:(j:Int)<i
 .exact h j a
 rw[XH oM,XH oM]
def zEH(xs ys:List Pix):CX 335 [.sl zcl xs,.sl zcl ys] (pr (xs=ys)):=by
 refine zc func335 λn o=>?_;refine⟨λa=>zd λe=>a (by rw[e]),λa=>?_⟩;have a:=Xa.1 a;intro p;refine⟨Int,λi=>⟨[(13,i64 i),(12,i64 xs.length),(0,.sl zcl xs),(1,.sl zcl ys)],[],0,26,0⟩,λi=>0<=i/\i<=xs.length/\∀j:Nat,(j:Int)<i->xs[j]?=ys[j]?,λi=>((xs.length:Int)-i).toNat,0,?_,?_,?_⟩
 .exact⟨oM,oM,λj m=>by omega⟩
 .exact zB []
 rintro i ⟨q,s,g⟩
 refine⟨λh=>?_,λh=>?_⟩
 .refine wc<|wb λx k=>wb λy d=>?_;refine⟨λb=>?_,λb=>?_⟩
  .refine zd λe=>b (zmm.2 ?_)
   subst e;rw[k]at d;exact Xl d
  refine wa<|⟨i+1,⟨oM,oM,λj m=>?_⟩,zB [],oN⟩
  by_cases e:j=i.toNat
  .subst e;rw[k,d,zmm.1 (Xa.1 b)]
  exact g j oM
 exact zH (zEG a h g)
def zox(m n:Img):CX 273 [.agg (zi9 m),.agg (zi9 n)] (pr (m=n)):=by
 refine zc func273<|Br.mk (λa=>?_) (λa=>zd λe=>a (by rw[e]));refine⟨λb=>?_,λb=>zd λe=>b (by rw[e])⟩;refine wg (zEH m.px n.px)<|zC ⟨λh=>?_,λh=>by rw[h]⟩
 cases m;cases n;simp_all
def zeH:Pix:=⟨0,0,0,0⟩
end Go.Gs
