/- Natural numbers, the program's: how many binary digits. -/
import Derived.Test.YtakicgnbhdpknaaGreatDoorPAQ
set_option maxRecDepth 100000
set_option maxHeartbeats 8000000
set_option linter.all false
namespace Go.Gs
open Proofs.Tryz
open Go.Proofs
def zk4{s:ByteArray}{i:Nat}{b:UInt8}(a:s[i]?=some b)(hi:i<s.size)(key:∀h:i<s.size,(s[i]'h).toNat=bitLen i):b.toNat=kC i:=by
 have e:=getElem?_pos s i hi;rw[a]at e;rw[Xl e];exact key hi
def zd9{x:Nat}(b:Nat)(h:2^b<=x):kC x=b+kC (x/2^b):=
 bitLen_shift x b (Nat.ne_of_gt (Nat.div_pos h (Qa dC)))
def zvb(x:Nat)(o:x<4294967296):CX 149 [u32 x] (i64 (kC x)):=by
 refine zc func149 ?_;have fin:∀(y:Nat) (k:Int),y<256->(kC x:Int)=k+kC y->∀b:UInt8,b.toNat=kC y->(k+(b.toNat:Int))=kC x:=λy k _ h b c=>by rw[h,c]
 have small:∀y:Nat,y<256->kC y<=8:=λy m=>bitLen_le8 y m
 refine⟨λj=>?_,λj=>?_⟩
 .refine wb1 ?_;have i:(x:Int)/2^16=((x/65536:Nat):Int):=by simp
  rw[i];have n:=zd9 (x:=x) 16 oM;rw[show(2:Nat)^16=65536 by decide]at n;have l:x/65536<65536:=oM;generalize x/65536=y at*;refine⟨λf=>?_,λf=>?_⟩
  .refine wb1 ?_;have e:(y:Int)/2^8=((y/256:Nat):Int):=by simp
   rw[e];have g:=zd9 (x:=y) 8 oM;rw[show(2:Nat)^8=256 by decide]at g;have a:y/256<256:=oM;generalize y/256=z at*;(iterate 2 refine wa ?_);refine wb10 λb c=>?_;have d:b.toNat=kC z:=zk4 c (by show z<256;exact a) (λh=>len8tab_get z h);have:=small z a;(iterate 2 refine wa ?_);exact ze oM
  have a:y<256:=by omega
  refine wa<|wb10 λb c=>?_;have d:b.toNat=kC y:=zk4 c (by show y<256;exact a) (λh=>len8tab_get y h);have:=small y a;(iterate 2 refine wa ?_);exact ze oM
 refine⟨λf=>?_,λf=>?_⟩
 .refine wb1 ?_;have e:(x:Int)/2^8=((x/256:Nat):Int):=by simp
  rw[e];have g:=zd9 (x:=x) 8 oM;rw[show(2:Nat)^8=256 by decide]at g;have a:x/256<256:=oM;generalize x/256=z at*;(iterate 2 refine wa ?_);refine wb10 λb c=>?_;have d:b.toNat=kC z:=zk4 c (by show z<256;exact a) (λh=>len8tab_get z h);have:=small z a;(iterate 2 refine wa ?_);exact ze oM
 have a:x<256:=by omega
 refine wa<|wb10 λb c=>?_;have d:b.toNat=kC x:=zk4 c (by show x<256;exact a) (λh=>len8tab_get x h);have:=small x a;(iterate 2 refine wa ?_);exact ze oM
def zpa{x:Nat}(a:x<4294967296):kC x<=32:=by
 by_cases h:x=0
 .subst h;decide
 have:=zcl h;have:=(QJ (by decide:1<2)).1 (Qh this (show x<2^32 from a));omega
def zFW(x:Nat)(a:x<4294967296):CX 466 [u32 x] (i64 (32-kC x:Nat)):=by
 refine zc func466<|wg (zvb x a) ?_;have:=zpa a;exact wa<|ze oM
def zra(a:LB)(k:a.length<=900000000):CX 382 [.sl dgE a] (i64 (kC (val a))):=by
 refine zc func382<|wg (jz _ oM) λl=>?_;have d:=zK a;refine⟨λh=>?_,λh=>?_⟩
 .have:zn (val a)=[]:=XP.1 oM;exact ze (by rw[yI.1 this];rfl)
 have c:zn (val a)≠[]:=λe=>h (by rw[e];rfl)
 have j:=(zaa (val a)).resolve_left c;have htop:=zcn j;rw[zr]at htop;intro g;(iterate 2 refine wa ?_);intro i;refine wa<|wb λx f=>?_;rw[show(((zn (val a)).length:Int)-1).toNat=(zn (val a)).length-1 by omega]at f;have dx:=zX f;have b:=x.isLt;refine wg (zvb x.val b) ?_;rw[dx]at htop;have:=zpa b;exact wa<|ze oM
def zFX(a:LB)(n:Nat)(b:a.length<=800000000)(c:n<=1000000000000):
  CX 467 [.sl dgE a,i64 (-(n:Int))] (.sl dgE (zn (val a/2^n))):=by
 by_cases h:n=0
 .subst h;have:=(zzB a 0 b oM).le (zc1 rfl);rw[Jv,Jm]at this;rw[Jv,Nat.div_one];exact this
 exact(n_shr a n b c h).le (zc1 rfl)
def zFY(a:LB)(n:Nat)(b:a.length<=800000000)(c:n<=4096):
  CX 467 [.sl dgE a,i64 n] (.sl dgE (zn (val a*2^n))):=(zzB a n b c).le (zc1 rfl)
def ztF{B s:Nat}(hB:B≠0)(l:s+kC (dig (zn B) ((zn B).length-1))=32):
  (zn (B*2^s)).length=(zn B).length/\2147483648<=dig (zn (B*2^s)) ((zn B).length-1):=by
 have b:zn B≠[]:=λe=>hB (yI.1 e)
 have htop:=zcn ((zaa B).resolve_left b);rw[zr]at htop;have f:0<2^s:=Qa dC;have hV0:B*2^s≠0:=Ys hB oM;have g:=zd6 B;have h:=zcl hB;have hpos:=zcm.2 hB;have k:=jF.2 hB
 have e:kC (B*2^s)=kC B+s:=by
  refine zgT ?_ hV0 ?_
  .rw[Kj];exact KV g f
  rw[show kC B+s-1=kC B-1+s by omega,Kj];exact Xv _ h
 have e32:kC (B*2^s)=32*(zn B).length:=oM;have j:(zn (B*2^s)).length<=(zn B).length:=jQ (by rw[zbx,←e32];exact zd6 _);have i:(zn B).length<=(zn (B*2^s)).length:=qt (QM _ f);have a:(zn (B*2^s)).length=(zn B).length:=oM;refine⟨a,?_⟩;have hnV:zn (B*2^s)≠[]:=λe=>hV0 (yI.1 e)
 have d:=(zaa (B*2^s)).resolve_left hnV;have c:=zcn d;rw[zr,a]at c;rw[a]at d;have:=zcl d;rw[show kC (dig (zn (B*2^s)) ((zn B).length-1))-1=31 by omega]at this;exact this
def zzC{u q:LB}{k n V U:Nat}(s:k<q.length)(e:q.length+n=u.length)(hV:V<4294967296^n)(x:val (u.drop (k+1))<V)(r:U=V*(4294967296^(k+1)*val (q.drop (k+1)))+val u):
  ((u.drop k).take (n+1)).length=n+1/\val ((u.drop k).take (n+1))<4294967296*V/\u=u.take k++((u.drop k).take (n+1)++u.drop (k+n+1))/\
  ∀w:LB,w=yf (n+1) (val ((u.drop k).take (n+1))%V)->∀d:Dig,d.val=val ((u.drop k).take (n+1))/V->
   val ((u.take k++(w++u.drop (k+n+1))).drop k)<V/\U=V*(4294967296^k*val ((q.set k d).drop k))+val (u.take k++(w++u.drop (k+n+1))):=by
 have h:((u.drop k).take (n+1)).length=n+1:=by rw[Xo,KB];omega
 have z:=yV u k;have j:=zG u k;have m:val (u.drop k)<4294967296*V:=oM;have a:=kT (u.drop k) (n+1);rw[J1,show k+(n+1)=k+n+1 by omega]at a
 have i:val (u.drop (k+n+1))=0:=by
  apply Nat.eq_zero_of_not_pos;intro y;have A:4294967296^(n+1)<=4294967296^(n+1)*val (u.drop (k+n+1)):=QM _ y;have B:4294967296^(n+1)=4294967296^n*4294967296:=X1 ..;omega
 rw[i,Kv,XW]at a
 have t:u=u.take k++((u.drop k).take (n+1)++u.drop (k+n+1)):=by
  have v:u.drop (k+n+1)=(u.drop k).drop (n+1):=by rw[J1];congr 1
  rw[v,Kr,Kr]
 refine⟨h,oM,t,?_⟩;intro w o d c
 have g:val w=val ((u.drop k).take (n+1))%V:=by
  rw[o];refine zva<|Xx (Kn _ oM) ?_;rw[X1];omega
 have hwl2:w.length=n+1:=by rw[o,yx]
 have f:(u.take k).length=k:=by rw[Xo];omega
 have C:=Kn (val ((u.drop k).take (n+1))) (show V > 0 by omega);have l:=Kf (val ((u.drop k).take (n+1))) V;have b:=kT u k;rw[a]at b;constructor
 .rw[List.drop_append_of_le_length oM,Jq oM,QF,v9,i];omega
 rw[v9,v9,i,f,zcb s,g,c,r,b,X1];generalize val ((u.drop k).take (n+1))=W at*;generalize W/V=D at*;generalize W%V=R at*;generalize 4294967296^k=p at*;generalize val (q.drop (k+1))=Q at*;generalize val (u.take k)=T at*;clear o g c a i t b r x j h hwl2 f m z e s;subst l
 grind
def zC4{W V Bn g:Nat}(h:g=W/V∨g=W/V+1)(hV:0<V)(hVB:V<=Bn):
  (if W<g*V then W+Bn-g*V else W-g*V)=(if W<g*V then W%V+Bn-V else W%V)/\(W<g*V->g=W/V+1)/\(¬W<g*V->g=W/V):=by
 have a:=Kf W V;have b:=Kn W hV
 rcases h with rfl|rfl
 .have:¬W<W/V*V:=Nat.not_lt_of_le (JV W V);rw[Xc this,Xc this];refine⟨?_,λh=>absurd h this,λ_=>rfl⟩;rw[Ky];omega
 have e:(W/V+1)*V=V*(W/V)+V:=by rw[Ka,YJ,Ky]
 have:W<(W/V+1)*V:=oM;rw[Xe this,Xe this];refine⟨?_,λ_=>rfl,λh=>absurd this h⟩;omega
def zC5{t p d c R:Nat}(g:t<p)(f:d<4294967296)(b:c<=1)(e:t+p*(d+c)=R+p*4294967296):(d+c)%4294967296=0/\t=R:=by
 have h:d+c=4294967296:=by
  rcases Kc (d+c) 4294967296 with h|h
  .have a:p*(d+c+1)<=p*4294967296:=Kl _ h;rw[KL,Jm]at a;omega
  omega
 rw[h]at e ⊢;exact⟨rfl,oM⟩
def zFZ{a b d p c z y xq xr:Nat}(e:a+p*c=b+d)(f:4294967296*xq+xr=c+(z+y)):a+p*xr+p*4294967296*xq=b+p*z+(d+p*y):=by grind
def zk5(a b:LB)(ha:a.length<=400000000)(hb:b.length<=400000000)(E:val b≠0):
  CX 418 [.sl dgE a,.sl dgE b] (.tup [.sl dgE (zn (val a/val b)),.sl dgE (zn (val a%val b)),i64 0]):=by
 refine zc func418<|wg (jz _ oM)<|wg (jz _ oM) ?_;have hla:=zK a;have hlb:=zK b;generalize val a=A at*;generalize val b=B at*;intro hl;refine⟨λh=>?_,λh=>?_⟩
 .exact absurd (yI.1 (XP.1 oM)) E
 refine wg (zEY _ _ oM oM) ?_;rw[zr,zr];refine⟨λv=>?_,λv=>?_⟩
 .have O:=zeW.1 v;refine wg (zo9 _ oM) ?_;rw[Ko O,Xy O,j9];exact zaP (.cons zD (.C (.C .nil)))
 have hge:B<=A:=Q6 λh=>v (zeW.2 h)
 intro hl2;refine⟨λh3=>?_,λh3=>?_⟩
 .refine wb λx o=>?_;have dx:=zX o;have p:=x.isLt
  have hx1:zn B=[x]:=by
   have o:(zn B)[0]?=some x:=o;obtain⟨y,hy⟩:=Yn.1 (show(zn B).length=1 by omega);rw[hy]at o ⊢;simp at o;rw[o]
  have hB:x.val=B:=by
   have:=zr B;rw[hx1,vA,zo3]at this;omega
  refine wg (n_one (zn A) x.val oM p oM) ?_;rw[zr,hB];have hm:=Kn A (show B > 0 by omega);exact wa<|wg (zeY (A%B) oM)<|.refl
 intro hl3;refine wa<|wb λx o=>?_;rw[show(((zn B).length:Int)-1).toNat=(zn B).length-1 by omega]at o;have dx:=zX o;have p:=x.isLt;refine wg (zFW x.val p) ?_;have hn32:=zpa p;obtain⟨s,hs⟩:∃s,32-kC x.val=s:=⟨_,rfl⟩;rw[hs];refine wg (zFY _ s oM oM)<|wg (zzB _ s oM oM) ?_;rw[zr,zr];obtain⟨hvl,F⟩:=ztF (B:=B) (s:=s) E (by rw[dx];omega);refine⟨Dig,dgE,[0],rfl,Ob.mk (zid 0) ?_⟩
 have hul:(zn (A*2^s)).length<=400000001:=XB (jQ (k:=(zn A).length+1) (by
  have h1:=zc3 (n:=A) (Xj _);have v:2^s<=4294967296^1:=by rw[zbx];exact XJ dC oM
  rw[Kj]
  exact Xx (KV h1 (Qa dC)) (Kl _ v))) oM
 refine⟨_,rfl,Ob.mk ⟨List.cons_ne_nil _ _,(by show((_:Int)+((1:Nat):Int))*((4:Nat):Int)<=_;omega),(by show _+1<=_;omega),dC,λ_ _=>rfl,λ_ _=>rfl⟩ ?_⟩;have m:0<2^s:=Qa dC;have hmA:(zn A).length<=(zn (A*2^s)).length:=qt (QM _ m);have hmB:(zn (B*2^s)).length<=(zn (A*2^s)).length:=qt (Xv _ hge);have hV0:B*2^s≠0:=Ys E oM;have L:A/B=A*2^s/(B*2^s):=(YD _ _ m).symm
 have M:A%B=A*2^s%(B*2^s)/2^s:=by rw[YE,Nat.mul_div_cancel _ m]
 rw[L,M];have hlb2:(zn B).length≠0/\(zn B).length≠1:=⟨oM,oM⟩;rw[←hvl]at F;clear L M m;generalize A*2^s=U at*;generalize B*2^s=V at*;refine⟨Unit,λ_=>⟨[(0,.sl dgE (zn A)),(9,i64 s),(10,.sl dgE (zn V)),(11,.own 0)],[(0,qz (zn U++[0]))],1,148,0⟩,λ_=>True,λ_=>0,(),tV,zf [1],?_⟩
 rintro⟨⟩ _
 intro hl4;intro hl5;have hll:(zn U++[0]).length=(zn U).length+1:=by simp
 refine⟨λh4=>?_,λ_=>?_⟩
 .omega
 intro hl6;intro hl7;refine wa ?_;obtain⟨nq,hnq⟩:∃nq:Nat,nq+(zn V).length=(zn U).length+1:=⟨(zn U).length+1-(zn V).length,oM⟩;refine⟨Dig,dgE,0,rfl,wb7 ?_⟩;intro hl8;refine wa ?_;have hVn:V<4294967296^(zn V).length:=zc3 (Xj _)
 refine⟨Nat×LB×LB,λ⟨j,q,u⟩=>⟨[(13,i64 ((j:Int)-1)),(12,.own 1),(11,.own 0),(10,.sl dgE (zn V)),(9,i64 s)],[(1,qz q),(0,qz u)],2,148,0⟩,
  λx=>x.1<=nq/\x.2.1.length=nq/\x.2.2.length=(zn U).length+1/\val (x.2.2.drop x.1)<V/\U=V*(4294967296^x.1*val (x.2.1.drop x.1))+val x.2.2,λx=>x.1,
  (nq,List.replicate nq 0,zn U++[0]),?_,?_,?_⟩
 .refine⟨Xj _,sI,hll,?_,?_⟩
  .dsimp only;have r:val (zn U++[0])=U:=by rw[vB,zr];rfl
   rw[zkW,r];have h1:=zc3 (n:=U) (Xj _);have v:=zo4 hV0;refine Xx ?_ v;rw[X0 (zd4 _),←Kj];refine Xx h1 (XJ dC oM)
  dsimp only;rw[kg sI,Kv,Kv,vB,zr];show U=0+(U+_*0);omega
 .exact zP [0,1] ⟨iR (by simp only[Kq];omega),rfl,rfl,rfl,rfl,tV⟩ ⟨Xg (λn=>some (qz (List.replicate n 0))) oM,rfl,tV⟩
 rintro⟨j,q,u⟩ ⟨g1,H,Z,N,I⟩
 dsimp only at g1 H Z N I;refine⟨λk1=>?_,λk1=>?_⟩
 .obtain⟨k,rfl⟩:∃k,j=k+1:=⟨j-1,oM⟩;rw[show(((k+1:Nat):Int)-1)=k by omega];obtain⟨J,r2,r3,r4⟩:=zzC (k:=k) (n:=(zn V).length) oM oM hVn N I;intro hl9;(iterate 2 refine wa ?_);refine Sl.win (Ob.mk oM ?_);have P:(u.take k).length=k:=by rw[Xo];omega
  rw[show(((k+1:Nat):Int)-1+((zn V).length:Int)+1-(((k+1:Nat):Int)-1))=(((u.drop k).take ((zn V).length+1)).length:Nat) by rw[J];omega,
   show(((k+1:Nat):Int)-1)=((u.take k).length:Nat) by omega]
  have hW:(u.drop ((u.take k).length:Int).toNat).take (((u.drop k).take ((zn V).length+1)).length:Int).toNat=(u.drop k).take ((zn V).length+1):=by
   rw[XT,XT,J,P]
  obtain⟨post,hpost⟩:∃post,u.drop (k+(zn V).length+1)=post:=⟨_,rfl⟩;obtain⟨pre,hpre⟩:∃pre,u.take k=pre:=⟨_,rfl⟩;rw[hpost,hpre]at r3 r4;rw[hpre]at P hW;rw[hpre];obtain⟨e,_,_⟩:=zno (U:=(u.drop k).take ((zn V).length+1)) (V:=zn V) J oM F (by rw[zr];exact r2);rw[zr]at e;have cg:=zC2 ((u.drop k).take ((zn V).length+1)) (zn V) oM J oM F (by rw[zr];exact r2);generalize zih ((u.drop k).take ((zn V).length+1)) (zn V)=g at e cg;rw[←hW]at cg;refine wg cg ?_;clear cg hW
  generalize (u.drop k).take ((zn V).length+1)=W at*;have hD:val W/V<4294967296:=by rw[X0 oM];exact r2
  have hpn:4294967296^((zn V).length+1)=4294967296^(zn V).length*4294967296:=X1 ..;obtain⟨m1,m2,m3⟩:=zC4 (Bn:=4294967296^((zn V).length+1)) e (Kg hV0) oM;have hmod:=Kn (val W) (Kg hV0);have ct:=zFU pre W post (zn V) g J oM;rw[←r3,zr]at ct
  have Q:zq8 W (zn V) g=yf ((zn V).length+1) (if val W<g*V then val W%V+4294967296^((zn V).length+1)-V else val W%V):=by
   unfold zq8;rw[zr,J,m1]
  rw[Q]at ct;clear Q m1;refine zb.hand 0 _ _ _ rfl ct (qT _) (qT _) rfl rfl ?_;clear ct e;generalize val W/V=D at*;generalize val W%V=R at*;have hul2:u.length=pre.length+(W.length+post.length):=by rw[r3];simp
  refine⟨λT=>?_,λT=>?_⟩
  .have hg:=m2 T;rw[Xe T];refine wa λhl10=>?_;obtain⟨d,G⟩:∃d,yf ((zn V).length+1) (R+4294967296^((zn V).length+1)-V)=d:=⟨_,rfl⟩;have hw0l:d.length=(zn V).length+1:=by rw[←G,yx]
   have hw0v:val d=R+4294967296^((zn V).length+1)-V:=by rw[←G];exact zva oM
   rw[G]
   refine⟨Nat×LB×Nat,λ⟨i,w,c⟩=>⟨[(105,i64 i),(104,i64 (zn V).length),(103,.sl dgE (zn V)),(16,u64 c),(15,u64 ((g:Int)-1)),(14,.win 0 1 (pre.length:Nat) (W.length:Nat)),(13,i64 (pre.length:Nat)),(12,.own 1),(11,.own 0),(10,.sl dgE (zn V)),(9,i64 s)],
     [(1,qz q),(0,qz (pre++(w++post)))],2,148,0⟩,
    λx=>x.1<=(zn V).length/\x.2.1.length=(zn V).length+1/\x.2.2<=1/\(∀j,x.1<=j->dig x.2.1 j=dig d j)/\val (x.2.1.take x.1)+4294967296^x.1*x.2.2=val (d.take x.1)+val ((zn V).take x.1),
    λx=>(zn V).length-x.1,(0,d,0),?_,?_,?_⟩
   .exact⟨Xh _,hw0l,Xh _,λ_ _=>rfl,by simp[val]⟩
   .exact zP [0,1] ⟨rfl,rfl,rfl,rfl,rfl,rfl,iR oM,rfl,rfl,rfl,rfl,tV⟩ ⟨rfl,rfl,tV⟩
   rintro⟨i,w,c⟩ ⟨f1,X,f3,Y,f5⟩
   dsimp only at f1 X f3 Y f5;have f:(pre++(w++post)).length=pre.length+(zn V).length+1+post.length:=by simp[X];omega
   refine⟨λk3=>?_,λk3=>?_⟩
   .refine wb λy(hy:(zn V)[i]?=some y)=>?_;have dy:=zX hy;have hyl:=y.isLt;refine wb6<|Ob.mk (by rw[f];omega) λz r=>?_;have r:w[i]?=some z:=by rw[←zjS (pre:=pre) (post:=post) oM,←r];congr 1
    have dz:=zX r;have S:=z.isLt;(iterate 4 refine wa ?_);refine Ar.wrap<|wb6<|Ob.mk (by rw[f];omega) λz' hz'=>?_;refine⟨dof (c+(z.val+y.val)),Xg (λn=>[u32 n]) (by rw[zby rfl];simp),?_⟩;refine wb1<|wa ?_
    refine⟨(i+1,w.set i (dof (c+(z.val+y.val))),(c+(z.val+y.val))/4294967296),⟨oN,by simp[X],oN,λj hj=>?_,?_⟩,
     qI [(0,some 0),(1,some 1)] rfl rfl rfl ⟨rfl,rfl,rfl,Xg (λn=>some (u64 n)) (by simp only[Int.reducePow];omega),rfl,rfl,rfl,rfl,rfl,rfl,rfl,tV⟩
      ⟨rfl,Xg (λl=>some (qz l)) (by rw[←zjT oM];congr 1),tV⟩,oN⟩
    .dsimp only at hj ⊢;rw[jU,Xc oM];exact Y j oM
    dsimp only;rw[zT,zT,zT,X1,dy,jU,Xe ⟨rfl,oM⟩,kz,←Y i (Xj _),dz];have ht:(w.set i (dof (c+(z.val+y.val)))).take i=w.take i:=by rw[Jb oM]
    rw[ht];have hd:=Kf (c+(z.val+y.val)) 4294967296;exact zFZ f5 hd
   have hi:i=(zn V).length:=by omega
   subst hi;intro hl11;refine wb6<|Ob.mk (by rw[f];omega) λz r=>?_;have r:w[(zn V).length]?=some z:=by rw[←zjS (pre:=pre) (post:=post) oM,←r];congr 1
   have dz:=zX r;have S:=z.isLt;refine wa<|Ar.wrap<|wb6<|Ob.mk (by rw[f];omega) λz' hz'=>?_;refine⟨dof (z.val+c),Xg (λn=>[u32 n]) (by rw[zby rfl];simp),?_⟩
   have hw2:w.set (zn V).length (dof (z.val+c))=yf ((zn V).length+1) R:=by
    rw[←zu9 (w.set _ _),XS,X];congr 1;have t:=kT d (zn V).length;have e3:=zG d (zn V).length;rw[kg (show d.length<=(zn V).length+1 by omega),Kv,XW]at e3;rw[e3,hw0v,hpn,←Y _ (Xj _),dz]at t;rw[kV (Xj (zn V).length),zr]at f5;have H:=kT (w.set (zn V).length (dof (z.val+c))) (zn V).length;have Z:=zG (w.set (zn V).length (dof (z.val+c))) (zn V).length;have g0:val ((w.set (zn V).length (dof (z.val+c))).drop ((zn V).length+1))=0:=kg (by rw[XS];omega)
    rw[g0,Kv,XW,jU,Xe ⟨rfl,oM⟩,kz]at Z;rw[Z,Jb (Xj _)]at H;rw[H];obtain⟨n1,n2⟩:=zC5 (R:=R) (qV w (zn V).length) S f3 (by rw[KL];omega);rw[n1,n2];rfl
   have hset:(pre++(w++post)).set (pre.length+(zn V).length) (dof (z.val+c))=pre++(yf ((zn V).length+1) R++post):=by
    rw[zjT oM,hw2]
   obtain⟨t,K⟩:=r4 _ rfl (dof D) (by rw[kz,Xy hD]);refine wa<|wb<|wb λz2 hz2=>?_;refine⟨dof D,Xg (λn=>[u32 n]) (by rw[kz,Xy hD];omega),?_⟩;refine wa ?_
   refine⟨(k,q.set k (dof D),pre++(yf ((zn V).length+1) R++post)),⟨oN,by simp[H],by simp[yx];omega,t,K⟩,
    zP [0,1] ⟨iR oM,rfl,rfl,rfl,rfl,tV⟩ ⟨Xg (λn=>some (qz (q.set n _))) oM,Xg (λl=>some (qz l)) (by rw[←hset];congr 1),tV⟩,oN⟩
  have hg:=m3 T;rw[Xc T];obtain⟨t,K⟩:=r4 _ rfl (dof D) (by rw[kz,Xy hD]);refine wa<|wb<|wb λz2 hz2=>?_;refine⟨dof D,Xg (λn=>[u32 n]) (by rw[kz,Xy hD];omega),?_⟩;refine wa ?_
  refine⟨(k,q.set k (dof D),pre++(yf ((zn V).length+1) R++post)),⟨oN,by simp[H],by simp[yx];omega,t,K⟩,
   zP [0,1] ⟨iR oM,rfl,rfl,rfl,rfl,tV⟩ ⟨Xg (λn=>some (qz (q.set n _))) oM,rfl,tV⟩,oN⟩
 have hj:j=0:=by omega
 subst hj;rw[Qc]at N I;rw[Jv,YJ]at I;refine zb.see 1 _ (jz _ oM) rfl rfl rfl<|wa<|zb.see 0 _ (zFX u s oM oM) rfl rfl rfl ?_
 have t:val q=U/V:=by
  rw[I,QG oM,Ko N,XW]
 have K:val u=U%V:=by
  rw[I,QH,Xy N]
 exact zaP (.cons (z6 (by rw[t])) (.cons (z6 (by rw[K])) (.C .nil)))
def n_gcd(a b:LB)(i:a.length<=400000000)(j:b.length<=400000000):
  CX 421 [.sl dgE a,.sl dgE b] (.sl dgE (zn (Nat.gcd (val a) (val b)))):=by
 refine zc func421<|wg (zay _ oM)<|wg (zay _ oM) ?_;have g:=zK a;have h:=zK b
 refine⟨Nat×Nat,λ⟨A,B⟩=>⟨[(0,.sl dgE (zn A)),(1,.sl dgE (zn B))],[],0,25,0⟩,
  λx=>(zn x.1).length<=400000000/\(zn x.2).length<=400000000/\Nat.gcd x.1 x.2=Nat.gcd (val a) (val b),λx=>x.2,(val a,val b),?_,?_,?_⟩
 .exact⟨oN,oN,rfl⟩
 .exact zC []
 rintro⟨A,B⟩ ⟨f,d,c⟩
 dsimp only at f d c;intro l;refine⟨λk=>?_,λk=>?_⟩
 .have hB:B≠0:=jF.1 oM;refine wg (zk5 (zn A) (zn B) oM oM (by rw[zr];exact hB)) ?_;rw[zr,zr];have e:=Kn A (Kg hB);refine⟨(B,A%B),⟨d,XB (qt (YR e)) d,?_⟩,zC [],e⟩;dsimp only;rw[←c,Q3 B,Q3 A B,Nat.gcd_rec B A]
 have hB:B=0:=yI.1 (XP.1 oM);subst hB;rw[Nat.gcd_zero_right]at c;exact z6 (by rw[c])
def zfD(p:Prop)[i:Decidable p](m:LB)(a:m.length<=1000000000):
  CX 386 [.pr p i,.sl dgE m] (wl (ofZ (if p then-(val m:Int) else val m))):=by
 refine zc func386<|wg (zay m a) ?_;have b:=jF (n:=val m);refine⟨λh=>?_,λh=>?_⟩
 .intro c;refine jp (.cons (zB ?_) (.cons (z6 ?_) .nil))
  .rw[za5,Xe h];omega
  rw[jV,Xe h];congr 1;omega
 refine jp (.cons (zd ?_) (.cons (z6 ?_) .nil))
 .rw[za5,Xc h];omega
 rw[jV,Xc h];congr 1
def zF0(m:LB)(a:m.length<=1000000000):CX 386 [bl true,.sl dgE m] (wl (ofZ (-(val m:Int)))):=by
 have h:=(zfD True m a).args (.cons (zH trivial) LEs.refl)
 rwa [Xe trivial]at h
def zzD(m:LB)(a:m.length<=1000000000):CX 386 [bl false,.sl dgE m] (wl (ofZ (val m:Int))):=by
 have h:=(zfD False m a).args (.cons (zd not_false) LEs.refl)
 rwa [Xc not_false]at h
def zzE(a:BI)(b:a.mag.length<=1000000000):
  CX 386 [pr (a.neg=true),.sl dgE a.mag] (wl (ofZ a.v)):=zfD (a.neg=true) a.mag b
def ze0(n:Int)(a:R64 n):CX 331 [i64 n] (wl (ofZ n)):=by
 refine zc func331<|Br.mk (λh=>?_) (λh=>?_)
 .refine Ar.wrap<|Ar.wrap ?_;have e:IntKind.u64.wrap (-IntKind.u64.wrap n)=((n.natAbs:Nat):Int):=by rw[yn,yn];omega
  rw[e];refine wg (zeY n.natAbs oM)<|wg (zF0 (zn n.natAbs) (by have:=jq a;unfold jr at this;omega)) ?_;rw[zr,show(-(n.natAbs:Int))=n by omega];exact .refl
 refine Ar.wrap ?_;have e:IntKind.u64.wrap n=((n.natAbs:Nat):Int):=by rw[yn];omega
 rw[e];refine wg (zeY n.natAbs oM)<|wg (zzD (zn n.natAbs) (by have:=jq a;unfold jr at this;omega)) ?_;rw[zr,show(n.natAbs:Int)=n by omega];exact .refl
def zk6(a:BI)(f:a.mag.length<=900000000):CX 384 [wl a] (i64 a.v.sign):=by
 refine zc func384<|wg (zra a.mag f) ?_;have g:=zcm (n:=val a.mag);have e:=a.v_eq;refine⟨λh=>?_,λh=>?_⟩
 .have:a.v=0:=by omega
  exact ze (by rw[this];rfl)
 refine⟨λc=>?_,λc=>?_⟩
 .refine ze (Km ?_).symm
  obtain⟨b,d⟩|⟨b,d⟩:=e
  .omega
  rw[b]at c;cases c
 refine ze (Ku ?_).symm
 obtain⟨b,d⟩|⟨b,d⟩:=e
 .exact absurd b c
 omega
def z_neg(a:BI)(d:a.mag.length<=1000000000):CX 446 [wl a] (wl (ofZ (-a.v))):=by
 refine zc func446<|wg (zfD (¬a.neg=true) a.mag d) ?_
 have:(if¬a.neg=true then-(val a.mag:Int) else(val a.mag:Int))= -a.v:=by
  obtain⟨b,c⟩|⟨b,c⟩:=a.v_eq <;> simp[b,c]
 rw[this];exact .refl
def zE1(a b:BI)(j:a.mag.length<=800000000)(k:b.mag.length<=800000000):CX 363 [wl a,wl b] (wl (ofZ (a.v+b.v))):=by
 refine zc func363<|Br.mk (λh=>?_) (λh=>?_)
 .refine wc<|wg (zEZ a.mag b.mag oM oM) ?_;have i:=zcp j k;refine wg (zfD (a.neg=true) _ oM) ?_
  have:(if a.neg=true then-(val (zn (val a.mag+val b.mag)):Int) else(val (zn (val a.mag+val b.mag)):Int))=a.v+b.v:=by
   rw[zr]
   obtain⟨c,d⟩|⟨c,d⟩:=a.v_eq <;> obtain⟨e,f⟩|⟨e,f⟩:=b.v_eq <;> simp[c,e]at h <;> simp[c,d,f] <;> omega
  rw[this];exact .refl
 refine wg (zE0 a.mag b.mag oM oM) ?_;have i:(zn (val a.mag-val b.mag)).length<=1000000000:=XB (qt (YP _ _)) (XB (zK _) oM);have g:(zn (val b.mag-val a.mag)).length<=1000000000:=XB (qt (YP _ _)) (XB (zK _) oM);refine⟨λd=>?_,λd=>?_⟩
 .refine wg (zfD (a.neg=true) _ i) ?_
  have:(if a.neg=true then-(val (zn (val a.mag-val b.mag)):Int) else(val (zn (val a.mag-val b.mag)):Int))=a.v+b.v:=by
   rw[zr]
   obtain⟨c,d⟩|⟨c,d⟩:=a.v_eq <;> obtain⟨e,f⟩|⟨e,f⟩:=b.v_eq <;> simp[c,e]at h <;> simp[c,d,f] <;> omega
  rw[this];exact .refl
 refine wg (zE0 b.mag a.mag oM oM)<|wg (zfD (b.neg=true) _ g) ?_
 have:(if b.neg=true then-(val (zn (val b.mag-val a.mag)):Int) else(val (zn (val b.mag-val a.mag)):Int))=a.v+b.v:=by
  rw[zr]
  obtain⟨c,d⟩|⟨c,d⟩:=a.v_eq <;> obtain⟨e,f⟩|⟨e,f⟩:=b.v_eq <;> simp[c,e]at h <;> simp[e,d,f] <;> omega
 rw[this];exact .refl
def zV(z:Int):(ofZ z).mag.length=jr z:=rfl
def zrb(a b:BI)(d:a.mag.length<=800000000)(e:b.mag.length<=800000000):CX 385 [wl a,wl b] (wl (ofZ (a.v-b.v))):=by
 refine zc func385<|wc<|wg (z_neg b oM) ?_;have c:=zaQ b;refine wg (zE1 a (ofZ (-b.v)) oM (by rw[zV,zax];omega)) ?_;rw[z5,←Jj];exact .refl
def zji(a b:BI)(c:a.mag.length<=400000000)(d:b.mag.length<=400000000):CX 383 [wl a,wl b] (wl (ofZ (a.v*b.v))):=by
 refine zc func383<|wc<|wg (n_mul a.mag b.mag c d) ?_
 have e:(zn (val a.mag*val b.mag)).length<=1000000000:=by
  refine XB (jQ (k:=a.mag.length+b.mag.length) ?_) oM;rw[Kj];exact Ql (je _) (je _)
 refine wg (zfD (¬(a.neg=true↔b.neg=true)) _ e) ?_;rw[zr,zEX];exact .refl
def zrc(a:BI)(b:a.mag.length<=900000000):CX 326 [wl a] (i64 (kC a.v.natAbs)):=by
 refine zc func326<|wg (zra a.mag b) ?_;rw[←a.v_abs];exact .refl
def zzF{a b:Int}(c:0<b):a/b=if a<0 then-((a.natAbs/b.natAbs+(if a.natAbs%b.natAbs=0 then 0 else 1):Nat):Int) else((a.natAbs/b.natAbs:Nat):Int):=by
 have f:=Kf a.natAbs b.natAbs;have g:=Kn a.natAbs (show b.natAbs > 0 by omega);generalize a.natAbs/b.natAbs=q at*;generalize a.natAbs%b.natAbs=r at*;have e:(b:Int)*(q:Int)=((b.natAbs*q:Nat):Int):=by rw[Kb];congr 1;omega
 by_cases h:a<0
 .rw[Xe h]
  by_cases d:r=0
  .rw[Xe d,XW];exact((Qs c).2 ⟨(by rw[QN,e];omega:(0:Int)+b*(-(q:Int))=a),oM,c⟩).1
  rw[Xc d];exact((Qs c (r:=b-r)).2 ⟨by rw[QN,QR,Jl,e];omega,oM,oM⟩).1
 rw[Xc h];exact((Qs c (r:=r)).2 ⟨by rw[e];omega,oM,oM⟩).1
def zk7(p:Prop)[i:Decidable p]:CG0 420 [.pr p i] [] (.fn 471 [.loc 0 0]) [(0,.box 4 [.pr p i])]:=by
 exact qA tok mix func420 rfl rfl rfl<|⟨some 0,zCU (.cons (.loc 0 0 rfl) .nil),rfl,rfl⟩
def zii(p:Prop)[i:Decidable p](m:LB)(a:m.length<=1000000000):
  CX 471 [.sl dgE m,.ptr [.pr p i]] (wl (ofZ (if p then-(val m:Int) else val m))):=by
 exact zc func471<|wg (zfD p m a)<|.refl
def zzG(a b:BI)(l:a.mag.length<=200000000)(m:b.mag.length<=200000000)(j:0<b.v):
  CX 361 [wl a,wl b] (.tup [wl (ofZ (a.v/b.v)),wl (ofZ (a.v%b.v)),i64 0]):=by
 refine zc func361<|wc<|wg (zzE a oM)<|wg (zzE b oM) ?_;have la:=zaQ a;have lb:=zaQ b;refine wg (zk5 (zn a.v.natAbs) (zn b.v.natAbs) (by unfold jr at la;omega) (by unfold jr at lb;omega) (by rw[zr];omega)) ?_;rw[zr,zr];refine⟨λh=>absurd rfl h,λ_=>?_⟩;have e:=za5 a.v;have f:=za5 b.v;have d:=zzF (a:=a.v) j;have g:=Int.emod_def a.v b.v
 have zq:jr (a.v/b.v)<=jr a.v:=zco (by
  have:=Q7 a.v b.v
  exact this)
 have zp:=k9 (a.v/b.v) b.v;have neg1:a.v<0->¬((ofZ a.v).neg=true↔(ofZ b.v).neg=true):=λh=>by rw[e,f];omega
 have neg2:¬a.v<0->¬¬((ofZ a.v).neg=true↔(ofZ b.v).neg=true):=λh=>by rw[e,f];omega
 have q1:(zn (a.v.natAbs/b.v.natAbs)).length<=200000000:=XB (qt (Qf _ _)) (by unfold jr at la;omega);refine⟨λc=>?_,λc=>?_⟩
 .have hneg:a.v<0:=XR λh=>neg2 h c
  intro n;refine⟨λk=>?_,λk=>?_⟩
  .have i:a.v.natAbs%b.v.natAbs≠0:=jF.1 oM;refine wg (zeY 1 dC)<|wg (zEZ _ _ oM (by decide +kernel)) ?_;rw[zr,zr];rw[Xe hneg,Xc i]at d;have ql:=zcp (a:=zn (a.v.natAbs/b.v.natAbs)) (b:=zn 1) q1 (by decide +kernel);rw[zr,zr]at ql;refine zb.fresh _ _ (zk7 (¬((ofZ a.v).neg=true↔(ofZ b.v).neg=true))) rfl rfl (.inr rfl)<|wg (zii _ (zn (a.v.natAbs/b.v.natAbs+1)) oM) ?_;rw[zr,Xe c,←d];refine wc<|wg (zji (ofZ (a.v/b.v)) (ofZ b.v) (by rw[zV];omega) (by rw[zV];omega)) ?_
   refine wg (zrb (ofZ a.v) (ofZ ((ofZ (a.v/b.v)).v*(ofZ b.v).v)) (by rw[zV];omega) (by rw[zV,z5,z5];omega)) ?_;rw[z5,z5,z5,z5,QO (a.v/b.v),←g];exact .refl
  have i:a.v.natAbs%b.v.natAbs=0:=yI.1 (XP.1 oM);rw[Xe hneg,Xe i,XW]at d;refine zb.fresh _ _ (zk7 (¬((ofZ a.v).neg=true↔(ofZ b.v).neg=true))) rfl rfl (.inr rfl)<|wg (zii _ (zn (a.v.natAbs/b.v.natAbs)) oM) ?_;rw[zr,Xe c,←d];refine wc<|wg (zji (ofZ (a.v/b.v)) (ofZ b.v) (by rw[zV];omega) (by rw[zV];omega))<|wg (zrb (ofZ a.v) (ofZ ((ofZ (a.v/b.v)).v*(ofZ b.v).v)) (by rw[zV];omega) (by rw[zV,z5,z5];omega)) ?_;rw[z5,z5,z5,z5,QO (a.v/b.v),←g]
  exact .refl
 have hneg:¬a.v<0:=λh=>c (neg1 h)
 rw[Xc hneg]at d;refine zb.fresh _ _ (zk7 (¬((ofZ a.v).neg=true↔(ofZ b.v).neg=true))) rfl rfl (.inr rfl)<|wg (zii _ (zn (a.v.natAbs/b.v.natAbs)) oM) ?_;rw[zr,Xc c,←d];refine wc<|wg (zji (ofZ (a.v/b.v)) (ofZ b.v) (by rw[zV];omega) (by rw[zV];omega))<|wg (zrb (ofZ a.v) (ofZ ((ofZ (a.v/b.v)).v*(ofZ b.v).v)) (by rw[zV];omega) (by rw[zV,z5,z5];omega)) ?_;rw[z5,z5,z5,z5,QO (a.v/b.v),←g];exact .refl
def zvc(a:BI)(D:a.mag.length<=1000000000):
  CX 306 [wl a] (.tup [i64 (y7 a.v),pr (-9223372036854775808<=a.v/\a.v<=9223372036854775807)]):=by
 refine zc func306<|wg (zay a.mag D) ?_;have l:=zK a.mag;have p:=a.v_eq;generalize M:a.v=z at*;have I:z= -(val a.mag:Int)∨z=(val a.mag:Int):=p.imp YU YU
 have bad:¬(-9223372036854775808<=z/\z<=9223372036854775807)->LE (.tup [i64 0,bl false]) (.tup [i64 (y7 z),pr (-9223372036854775808<=z/\z<=9223372036854775807)]):=λh=>
  zO (ze (by rw[y7,Xc h])) (zd h)
 have good:∀n:Int,n=z-> -9223372036854775808<=z/\z<=9223372036854775807->LE (.tup [i64 n,bl true]) (.tup [i64 (y7 z),pr (-9223372036854775808<=z/\z<=9223372036854775807)]):=λn e h=>
  zO (ze (by rw[y7,Xe h,e])) (zH h)
 obtain⟨m,c⟩:∃m,zn (val a.mag)=m:=⟨_,rfl⟩;have d:val m=val a.mag:=by rw[←c,zr]
 have hbig:2<m.length->18446744073709551616<=val a.mag:=λh=>by
  have A:val a.mag≠0:=jF.1 (by rw[c];omega);have:=zo4 A;rw[c]at this;exact XB (XB dC (XJ dC (show 2<=m.length-1 by omega))) this
 rw[c];rw[c]at l;intro F;refine wa ?_
 refine⟨Nat,λj=>⟨[(6,i64 ((j:Int)-1)),(5,u64 (val (m.drop j))),(4,.sl dgE m),(1,.loc 0 0)],[(0,.box 53 (biE a))],1,55,0⟩,
  λj=>j<=m.length/\(j<m.length->m.length<=2),λj=>j,m.length,?_,?_,?_⟩
 .exact⟨Xj _,λh=>absurd h (YO _)⟩
 .exact zP [0] ⟨rfl,Xg (λn=>some (u64 n)) (by rw[kg (Xj _)];rfl),rfl,rfl,tV⟩ ⟨rfl,tV⟩
 rintro j ⟨J,K⟩
 refine⟨λB=>?_,λB=>?_⟩
 .intro G;refine⟨λC=>?_,λC=>?_⟩
  .have s:=zG m (j-1);rw[show j-1+1=j by omega]at s
   have k:val (m.drop j)<4294967296:=by
    have:=je (m.drop j);rw[KB]at this;exact Xx this (XB (XJ dC (show m.length-j<=1 by omega)) dC)
   refine wb1<|Ar.fit (by simp only[Int.reducePow];omega)<|wb λx t=>?_;rw[show((j:Int)-1).toNat=j-1 by omega]at t;have dx:=zX t;have r:=x.isLt;refine wa<|⟨_,(zgZ (x:=val (m.drop j)) (y:=x.val) k r rfl).symm,?_⟩;exact wa<|⟨j-1,⟨oM,λ_=>by omega⟩,zP [0] ⟨iR oM,Xg (λn=>some (u64 n)) (by rw[s,dx];omega),rfl,rfl,tV⟩ ⟨rfl,tV⟩,oN⟩
  intro o;have:=hbig oM;refine⟨λ_=>?_,λh=>absurd h oM⟩;exact bad oM
 have E:j=0:=by omega
 subst E;have i:val (m.drop 0)=val a.mag:=by rw[Qc,d]
 intro o
 have q:¬2<m.length->val a.mag<18446744073709551616:=λh=>by
  have:=je m;rw[d]at this;exact Xx this (XB (XJ dC (show m.length<=2 by omega)) dC)
 refine⟨λh=>?_,λh=>?_⟩
 .have:=hbig oM;exact bad oM
 have L:=q oM;have negz:a.neg=true->z= -(val a.mag:Int):=λh=>p.elim YU λg=>by rw[h]at g;cases g.1
 have posz:¬a.neg=true->z=(val a.mag:Int):=λh=>p.elim (λg=>absurd g.1 h) YU
 have hneg:a.neg=true->val a.mag<=9223372036854775808->IntKind.i64.wrap (IntKind.u64.wrap (-(val (m.drop 0):Int)))=z:=λh H=>by
  have:=negz h;rw[i,yn];show IntKind.i64.wrap _=_;simp only[IntKind.wrap,IntKind.bits,IntKind.signed];simp;omega
 refine⟨λu=>bad oM,λu=>?_⟩;refine⟨λw=>?_,λw=>?_⟩
 .refine⟨λf=>bad ?_,λf=>?_⟩
  .have:=posz f;omega
  have e:a.neg=true:=XR f;have:=negz e;refine⟨λ_=>?_,λb=>absurd e b⟩;exact Ar.wrap<|Ar.wrap<|good _ (hneg e oM) oM
 refine⟨λb=>?_,λb=>?_⟩
 .have:=negz b;exact Ar.wrap<|Ar.wrap<|good _ (hneg b oM) oM
 have:=posz b;exact wa<|good _ oM oM
structure BR where
 num:BI
 den:BI
 deriving DecidableEq
def BR.v(a:BR):Rat:=Rat.divInt a.num.v a.den.v
def ofQ(q:Rat):BR:=⟨ofZ q.num,ofZ q.den⟩
def kw(q:Rat):(ofQ q).v=q:=by unfold BR.v ofQ;rw[z5,z5,Qq]
def BR.len(a:BR):Nat:=max a.num.mag.length a.den.mag.length
def yW(q:Rat):Nat:=max (jr q.num) (jr q.den)
def zF(q:Rat):(ofQ q).len=yW q:=rfl
def zk8{n d:Int}(j:d≠0):(if n.sign*d.sign<0 then-((n.natAbs/Nat.gcd n.natAbs d.natAbs:Nat):Int) else((n.natAbs/Nat.gcd n.natAbs d.natAbs:Nat):Int))=(Rat.divInt n d).num:=by
 have b:0<Nat.gcd n.natAbs d.natAbs:=Je _ oM;rw[Rat.num_divInt,show d.gcd n=Nat.gcd n.natAbs d.natAbs from Q3 _ _];obtain⟨k,c⟩:((Nat.gcd n.natAbs d.natAbs:Nat):Int) ∣ n:=Int.ofNat_dvd_left.2 (Nat.gcd_dvd_left _ _);generalize Nat.gcd n.natAbs d.natAbs=g at*;have e:n.natAbs/g=k.natAbs:=by rw[c,QK,QP,Nat.mul_div_cancel_left _ b]
 have f:d.sign*n/(g:Int)=d.sign*k:=by
  rw[c,←Yd,QO d.sign,Yd,Int.mul_ediv_cancel_left _ oM]
 have i:n.sign=k.sign:=by rw[c,Int.sign_mul,Ku oM,Yb]
 rw[e,f,i]
 rcases Qk d 0 with h|h|h
 .rw[Km h]
  rcases Qk k 0 with a|a|a
  .rw[Km a,Xc dC];omega
  .subst a;rw[Xc dC];rfl
  rw[Ku a,Xe dC];omega
 .exact absurd h j
 rw[Ku h]
 rcases Qk k 0 with a|a|a
 .rw[Km a,Xe dC];omega
 .subst a;rw[Xc dC];rfl
 rw[Ku a,Xc dC];omega
def zk9{n d:Int}(a:d≠0):(Rat.divInt n d).den=d.natAbs/Nat.gcd n.natAbs d.natAbs:=by
 rw[Rat.den_divInt,Xc a,show d.gcd n=Nat.gcd n.natAbs d.natAbs from Q3 _ _]
def zea{n d:Int}(a:d≠0):yW (Rat.divInt n d)<=max (jr n) (jr d):=by
 have b:jr (Rat.divInt n d).num<=jr n:=zco (by
  rw[←zk8 a];have:=Qf n.natAbs (Nat.gcd n.natAbs d.natAbs);generalize n.natAbs/Nat.gcd n.natAbs d.natAbs=x at*
  split <;> omega)
 have c:jr (Rat.divInt n d).den<=jr d:=zco (by
  rw[zk9 a];have:=Qf d.natAbs (Nat.gcd n.natAbs d.natAbs);generalize d.natAbs/Nat.gcd n.natAbs d.natAbs=x at*
  omega)
 unfold yW;omega
def qB(q:Rat):jr q.num<=yW q:=Ji _ _
def qR(q:Rat):jr q.den<=yW q:=Q5 _ _
def zQ(a:BR):yW a.v<=max a.len 1:=by
 by_cases h:a.den.v=0
 .have:a.v=0:=by unfold BR.v;rw[h,Yu]
  rw[this];have:yW 0<=1:=by decide +kernel
  omega
 have:=zea (n:=a.num.v) h;have b:=zaQ a.num;have c:=zaQ a.den;unfold BR.len BR.v;omega
def zij(q:Rat):(q.den:Int)≠0:=by have:=q.den_nz;omega
def zla(x y:Rat):Rat.divInt (x.num*y.den+y.num*x.den) (x.den*y.den)=x+y:=by
 have:=YG x.num y.num (zij x) (zij y);rw[Qq,Qq]at this;exact this.symm
def zlb(x y:Rat):Rat.divInt (x.num*y.num) (x.den*y.den)=x*y:=by
 have:=Rat.divInt_mul_divInt x.num y.num (d₁:=x.den) (d₂:=y.den);rw[Qq,Qq]at this;exact this.symm
def zzH(x y:Rat):Rat.divInt (x.num*y.den-y.num*x.den) (x.den*y.den)=x-y:=by
 have:=YG x.num (-y.num) (zij x) (zij y);rw[Qq,←Rat.neg_divInt,Qq,Int.neg_mul,←Jj]at this;rw[←this,J6]
def u0(x y:Rat):(x.den:Int)*(y.den:Int)≠0:=Int.mul_ne_zero (zij x) (zij y)
def zbz(x y:Rat):yW (x+y)<=yW x+yW y+1:=by
 rw[←zla];have h:=zea (n:=x.num*y.den+y.num*x.den) (u0 x y);have e:=zgY (x.num*y.den) (y.num*x.den);have f:=k9 x.num y.den;have g:=k9 y.num x.den;have i:=k9 x.den y.den;have a:=qB x;have b:=qB y;have c:=qR x;have d:=qR y;omega
def yK(x y:Rat):yW (x*y)<=yW x+yW y:=by
 rw[←zlb];have h:=zea (n:=x.num*y.num) (u0 x y);have e:=k9 x.num y.num;have f:=k9 x.den y.den;have a:=qB x;have b:=qB y;have c:=qR x;have d:=qR y;omega
def zeb(z:Int):yW z<=max (jr z) 1:=by
 unfold yW;rw[Yv,Yt];have:jr ((1:Nat):Int)=1:=by decide +kernel
 omega
def brE(a:BR):LR:=biE a.num++biE a.den
def znp(a:BI)(g:LB)(c:a.mag.length<=400000000)(d:g.length<=400000000)(b:val g≠0):
  CX 422 [wl a,.ptr [.sl dgE g]] (.sl dgE (zn (val a.mag/val g))):=by
 exact zc func422<|wg (zk5 a.mag g c d b)<|.refl
def zg0(n d:BI)(j:n.mag.length<=400000000)(c:d.mag.length<=400000000)(i:d.v≠0):
  CX 362 [wl n,wl d] (.agg (brE (ofQ (Rat.divInt n.v d.v)))):=by
 refine zc func362<|wg (n_gcd n.mag d.mag j c) ?_;have e:=zk8 (n:=n.v) i;have f:=zk9 (n:=n.v) i;rw[n.v_abs,d.v_abs]at e f;have k:val d.mag≠0:=by rw[←d.v_abs];omega
 have l:0<Nat.gcd (val n.mag) (val d.mag):=Je _ oM
 have a:(zn (Nat.gcd (val n.mag) (val d.mag))).length<=400000000:=by
  refine XB (qt (Nat.gcd_le_right _ oM)) (XB (zK _) c)
 have m:(zn (val n.mag/Nat.gcd (val n.mag) (val d.mag))).length<=1000000000:=XB (qt (Qf _ _)) (XB (zK _) oM);have o:(zn (val d.mag/Nat.gcd (val n.mag) (val d.mag))).length<=1000000000:=XB (qt (Qf _ _)) (XB (zK _) oM);generalize Nat.gcd (val n.mag) (val d.mag)=g at*
 have p: -1<=n.v.sign*d.v.sign/\n.v.sign*d.v.sign<=1:=by
  rcases Qk n.v 0 with h|h|h <;> rcases Qk d.v 0 with b|b|b <;>
   simp[Km,Ku,h,b]
 refine wc<|wg (zk6 n oM)<|wg (zk6 d oM)<|wa<|wg (znp n (zn g) j a (by rw[zr];omega)) ?_;rw[zr];refine wg (zfD (n.v.sign*d.v.sign<0) _ m)<|wg (znp d (zn g) c a (by rw[zr];omega))<|wg (zzD _ (by rw[zr];exact o)) ?_;rw[zr,zr,zr,e,←f];exact .refl
def zE2(n d:BI)(c:n.mag.length<=400000000)(b:d.mag.length<=400000000)(a:d.v≠0):
  CX 359 [wl n,wl d] (.tup [.agg (brE (ofQ (Rat.divInt n.v d.v))),i64 0]):=by
 refine zc func359<|wg (zk6 d oM)<|⟨λh=>absurd (K5.1 h) a,λ_=>?_⟩;exact wg (zg0 n d c b a)<|zO .refl .refl
def zF1(n d:BI)(b:d.mag.length<=400000000)(a:d.v=0):
  CX 359 [wl n,wl d] (.tup [.agg [bl false,.sl dgE [],bl false,.sl dgE []],i64 9]):=by
 refine zc func359<|wg (zk6 d oM) ?_;rw[a];refine⟨λ_=>?_,λh=>absurd rfl h⟩;exact zO (jp (.C (.cons zD (.C (.cons zD .nil))))) .refl
def yR(n:Int)(a:R64 n):CX 262 [i64 n] (.agg (brE (ofQ (n:Rat)))):=by
 refine zc func262<|wg (ze0 n a)<|wg (ze0 1 dC) ?_;have e:ofQ (n:Rat)=⟨ofZ n,ofZ 1⟩:=by unfold ofQ;rw[Yv,Yt];rfl
 rw[e];exact .refl
def ztG(n d:Int)(b:R64 n)(a:R64 d)(c:d≠0):CX 305 [i64 n,i64 d] (.tup [.agg (brE (ofQ (Rat.divInt n d))),i64 0]):=by
 refine zc func305 ?_;have e:=jq b;have f:=jq a;refine wg (ze0 n b)<|wg (ze0 d a)<|wg (zE2 (ofZ n) (ofZ d) (by rw[zV];omega) (by rw[zV];omega) (by rw[z5];exact c)) ?_;rw[z5,z5];exact zO .refl .refl
def qW(a:BR)(d:a.len<=400000000):CX 325 [.agg (brE a)] (.agg (brE (ofQ a.v))):=by
 have b:a.num.mag.length<=a.len:=Ji _ _;have c:a.den.mag.length<=a.len:=Q5 _ _;refine zc func325 ?_
 by_cases h:a.den.v=0
 .refine wg (zF1 a.num a.den oM h)<|we<|wg (yR 0 dC) ?_;have e:a.v=((0:Int):Rat):=by unfold BR.v;rw[h,Yu];rfl
  rw[e];exact .refl
 refine wg (zE2 a.num a.den oM oM h)<|⟨λh=>absurd rfl h,λ_=>?_⟩;exact .refl
def zbA(q:Rat):(ofQ q).num.mag.length<=yW q/\(ofQ q).den.mag.length<=yW q:=⟨qB q,qR q⟩
def yD(q:Rat):(ofQ q).num.v=q.num:=z5 _
def jW(q:Rat):(ofQ q).den.v=q.den:=z5 _
def zpb(a b:BR)(g:a.len<=100000000)(h:b.len<=100000000):CG0 327 [.agg (brE a),.agg (brE b)] []
  (.tup [wl (ofZ (a.v.num*b.v.den)),wl (ofZ (b.v.num*a.v.den)),wl (ofZ (a.v.den*b.v.den))]) []:=by
 have c:=zQ a;have d:=zQ b;have e:=zbA a.v;have f:=zbA b.v;refine zc func327<|wc<|wg (qW a oM)<|wg (qW b oM)<|wc<|wg (zji (ofQ a.v).num (ofQ b.v).den oM oM) ?_;refine wg (zji (ofQ b.v).num (ofQ a.v).den oM oM)<|wg (zji (ofQ a.v).den (ofQ b.v).den oM oM) ?_;rw[yD,yD,jW,jW];exact .refl
def zrd(a b:BR)(g:a.len<=50000000)(h:b.len<=50000000):CX 308 [.agg (brE a),.agg (brE b)] (.agg (brE (ofQ (a.v+b.v)))):=by
 have e:=zQ a;have f:=zQ b;have m:=qB a.v;have n:=qB b.v;have c:=qR a.v;have d:=qR b.v;have i:=k9 a.v.num b.v.den;have j:=k9 b.v.num a.v.den;have k:=k9 a.v.den b.v.den;have l:=zgY (a.v.num*b.v.den) (b.v.num*a.v.den);refine zc func308<|wg (zpb a b oM oM)<|wc<|wg (zE1 (ofZ (a.v.num*b.v.den)) (ofZ (b.v.num*a.v.den)) (by rw[zV];omega) (by rw[zV];omega)) ?_;rw[z5,z5]
 refine wg (zg0 (ofZ (a.v.num*b.v.den+b.v.num*a.v.den)) (ofZ (a.v.den*b.v.den)) (by rw[zV];omega) (by rw[zV];omega) (by rw[z5];exact u0 _ _)) ?_;rw[z5,z5,zla];exact .refl
def zvd(a b:BR)(i:a.len<=50000000)(j:b.len<=50000000):CX 330 [.agg (brE a),.agg (brE b)] (.agg (brE (ofQ (a.v*b.v)))):=by
 have e:=zQ a;have f:=zQ b;have g:=zbA a.v;have h:=zbA b.v;have m:=qB a.v;have n:=qB b.v;have c:=qR a.v;have d:=qR b.v;have k:=k9 a.v.num b.v.num;have l:=k9 a.v.den b.v.den;refine zc func330<|wc<|wg (qW a oM)<|wg (qW b oM)<|wc<|wg (zji (ofQ a.v).num (ofQ b.v).num oM oM) ?_;refine wg (zji (ofQ a.v).den (ofQ b.v).den oM oM) ?_;rw[yD,yD,jW,jW];refine wg (zg0 (ofZ (a.v.num*b.v.num)) (ofZ (a.v.den*b.v.den)) (by rw[zV];omega) (by rw[zV];omega) (by rw[z5];exact u0 _ _)) ?_
 rw[z5,z5,zlb];exact .refl
def zve(a:BR)(e:a.len<=100000000):CX 307 [.agg (brE a)] (wl (ofZ a.v.floor)):=by
 have c:=zQ a;have d:=zbA a.v;have b:=a.v.den_nz;refine zc func307<|wg (qW a oM)<|wg (zzG (ofQ a.v).num (ofQ a.v).den oM oM (by rw[jW];omega)) ?_;rw[yD,jW,←Yi];exact .refl
def zcq(q:Rat):Nat:=max (kC q.num.natAbs) (kC q.den)
def zcr(a:BR)(d:a.len<=100000000):CX 259 [.agg (brE a)] (i64 (zcq a.v)):=by
 have b:=zQ a;have c:=zbA a.v;refine zc func259<|wg (qW a oM)<|wc<|wg (zrc (ofQ a.v).num oM)<|wg (zrc (ofQ a.v).den oM) ?_;rw[yD,jW,QP];refine ze ?_;unfold zcq;simp only[zdF];omega
abbrev wm(x:BR):SV:=.agg (brE x)
end Go.Gs
