/- A joint, both texts. -/
import Derived.Test.YtakicgnbhdpknaaGreatDoorPAV
import Derived.Test.YtakicgnbhdpknaaGreatDoorPAW
set_option maxRecDepth 100000
set_option maxHeartbeats 8000000
set_option linter.all false
namespace Go.Gs
open Proofs.Tryz
open Go.Proofs
def zjW{w:Int}{p:Pt}(a:kq w)(h:zhe w p):zm p:=by unfold kq at a;unfold zhe at h;unfold zm;omega
def zvB(n m:Pt)(w lim:Int):S50 (u1 n m w lim).1.x/\S50 (u1 n m w lim).1.y:=by
 unfold u1
 split
 .exact⟨dC,dC⟩
 rename_i h;obtain⟨e,d,b,_⟩:=Xa.1 h;have a:=ziv e d;dsimp only
 split
 .exact⟨dC,dC⟩
 generalize zw n m=s at*;have t:=zcz a.1 b;have g:=zcz a.2 b;exact⟨u3 (M:=1125899906842624) oM,u3 (M:=1125899906842624) oM⟩
def zvC{a v b:Pt}{p:Pen}(h:kE p/\zm a/\zm v/\zm b/\¬v=a/\¬v=b):jc a v b p=
  if p.j=3 then kO (vX v p.w) else if (qx a v b p.w).2.2=false then[]
  else kO (kH (if p.j=1/\(u1 (qx a v b p.w).1 (qx a v b p.w).2.1 p.w p.m).2=true then[v,zw v (qx a v b p.w).1,zw v (u1 (qx a v b p.w).1 (qx a v b p.w).2.1 p.w p.m).1,zw v (qx a v b p.w).2.1]
   else[v,zw v (qx a v b p.w).1,zw v (qx a v b p.w).2.1])):=by
 unfold jc;rw[kI h]
def zGs(a v b:Pt)(p:Pen):CX 380 [wk a,wk v,wk b,ws p] (.sl zk (jc a v b p)):=by
 refine zc func380 ?_
 have bad:¬(kE p/\zm a/\zm v/\zm b/\¬v=a/\¬v=b)->LE nS (.sl zk (jc a v b p)):=λh=>by
  unfold jc;rw[Xe h];exact zD
 refine wg (ze5 p)<|⟨λi=>bad (λh=>i h.1),λi=>?_⟩;refine wg (qa a)<|⟨λl=>bad (λh=>l h.2.1),λl=>?_⟩;refine wg (qa v)<|⟨λo=>bad (λh=>o h.2.2.1),λo=>?_⟩;refine wg (qa b)<|⟨λt=>bad (λh=>t h.2.2.2.1),λt=>?_⟩;refine⟨λu=>bad (λh=>h.2.2.2.2.1 (qm.1 u)),λu=>?_⟩;refine⟨λx=>bad (λh=>h.2.2.2.2.2 (qm.1 x)),λx=>?_⟩
 have d:kE p/\zm a/\zm v/\zm b/\¬v=a/\¬v=b:=
  ⟨Xa.1 i,Xa.1 l,Xa.1 o,Xa.1 t,λe=>u (qm.2 e),λe=>x (qm.2 e)⟩
 have g:=d.2.2.1;have y:=d.1.1;have e:=zvC d;refine⟨λz:p.j=3=>?_,λz:¬p.j=3=>?_⟩
 .exact wg (ztT v p.w)<|wg (zpp (vX v p.w))<|z6 (e.trans (Xe z)).symm
 rw[Xc z]at e;refine wg (zDg a v b p.w)<|⟨λk=>?_,λk=>?_⟩
 .have k:¬(qx a v b p.w).2.2=true:=k;rw[Xe (by simpa using k)]at e;rw[e];exact zD
 have k:(qx a v b p.w).2.2=true:=Xa.1 k;rw[Xc (by rw[k];decide)]at e;have oh:=zlz (a:=a) (v:=v) (b:=b) y;have E:=zjW y oh.1;have B:=zjW y oh.2;generalize (qx a v b p.w).1=n at*;generalize (qx a v b p.w).2.1=m at*;refine wd<|wg (ze9 v n g.p45.s E.p45.s)<|⟨Pt,ptE,[v,zw v n],rfl,wb0 ?_⟩;refine wh ?_
 have tail:∀(q:LU),(¬(p.j=1/\(u1 n m p.w p.m).2=true))->q=[v,zw v n,zw v m]->LE (.sl zk (kO (kH q))) (.sl zk (jc a v b p)):=λq h D=>by
  rw[e,Xc h,D];exact .refl
 refine⟨λA:p.j=1=>?_,λA:¬p.j=1=>?_⟩
 .refine wg (p_tip n m p.w p.m) ?_;have ht:=zvB n m p.w p.m;refine⟨λC=>?_,λC=>?_⟩
  .refine wg (ze9 v (u1 n m p.w p.m).1 g.p45.s ht)<|⟨Pt,ptE,[zw v (u1 n m p.w p.m).1],rfl,wb0 ?_⟩;refine⟨[zw v (u1 n m p.w p.m).1],rfl,wb9 ?_⟩;refine wg (ze9 v m g.p45.s B.p45.s)<|⟨Pt,ptE,[zw v m],rfl,wb0 ?_⟩;refine⟨[zw v m],rfl,wb22 ?_⟩;refine zb.see 11 _ (zbD [v,zw v n,zw v (u1 n m p.w p.m).1,zw v m] (by show((4:Nat):Int)<=_;decide)) rfl rfl rfl<|wg (zpp (kH [v,zw v n,zw v (u1 n m p.w p.m).1,zw v m])) ?_;rw[e,Xe ⟨A,C⟩];exact .refl
  refine wg (ze9 v m g.p45.s B.p45.s)<|⟨Pt,ptE,[zw v m],rfl,wb0 ?_⟩;refine⟨[zw v m],rfl,wb9 ?_⟩;exact zb.see 9 _ (zbD [v,zw v n,zw v m] (by show((3:Nat):Int)<=_;decide)) rfl rfl rfl<|wg (zpp (kH [v,zw v n,zw v m]))<|tail _ (λh=>C h.2) rfl
 refine wg (ze9 v m g.p45.s B.p45.s)<|⟨Pt,ptE,[zw v m],rfl,wb0 ?_⟩;refine⟨[zw v m],rfl,wb9 ?_⟩;exact zb.see 8 _ (zbD [v,zw v n,zw v m] (by show((3:Nat):Int)<=_;decide)) rfl rfl rfl<|wg (zpp (kH [v,zw v n,zw v m]))<|tail _ (λh=>A h.1) rfl
def zGt(a v b:Pt)(p:Pen):CX 409 [wk a,wk v,wk b,ws p] (.sl zk (jc a v b p)):=by
 refine zc func409 ?_
 have bad:¬(kE p/\zm a/\zm v/\zm b/\¬v=a/\¬v=b)->LE nS (.sl zk (jc a v b p)):=λh=>by
  unfold jc;rw[Xe h];exact zD
 refine wg (zc9 p)<|⟨λg=>bad (λh=>g h.1),λg=>?_⟩;refine wg (ki a)<|⟨λi=>bad (λh=>i h.2.1),λi=>?_⟩;refine wg (ki v)<|⟨λl=>bad (λh=>l h.2.2.1),λl=>?_⟩;refine wg (ki b)<|⟨λo=>bad (λh=>o h.2.2.2.1),λo=>?_⟩;refine⟨λq=>bad (λh=>h.2.2.2.2.1 (qm.1 q)),λq=>?_⟩;refine⟨λs=>bad (λh=>h.2.2.2.2.2 (qm.1 s)),λs=>?_⟩
 have d:kE p/\zm a/\zm v/\zm b/\¬v=a/\¬v=b:=
  ⟨Xa.1 g,Xa.1 i,Xa.1 l,Xa.1 o,λe=>q (qm.2 e),λe=>s (qm.2 e)⟩
 have u:=d.2.2.1;have x:=d.1.1;have e:=zvC d
 have fin:∀(r:LU),jc a v b p=kO r->((r.length:Int)=0->LE nS (.sl zk (jc a v b p)))/\(¬(r.length:Int)=0->jc a v b p=[r]):=λr C=>by
  refine⟨λh=>?_,λh=>?_⟩
  .have:r=[]:=Xp oM;rw[C,this];exact zD
  rw[C];unfold kO;rw[Xc (λk=>h (by rw[k];rfl))]
 refine⟨λy:p.j=3=>?_,λy:¬p.j=3=>?_⟩
 .refine wg (ztS v p.w) λt=>?_;have f:=fin _ (e.trans (Xe y));refine⟨λz=>f.1 z,λz=>?_⟩;refine⟨LU,zk,[vX v p.w],rfl,wb0 ?_⟩;exact z6 (f.2 z).symm
 rw[Xc y]at e;refine wg (zDh a v b p.w)<|⟨λk=>?_,λk=>?_⟩
 .have k:¬(qx a v b p.w).2.2=true:=k;rw[Xe (by simpa using k)]at e;rw[e];exact zD
 have k:(qx a v b p.w).2.2=true:=Xa.1 k;rw[Xc (by rw[k];decide)]at e;have oh:=zlz (a:=a) (v:=v) (b:=b) x;have D:=zjW x oh.1;have E:=zjW x oh.2;generalize (qx a v b p.w).1=n at*;generalize (qx a v b p.w).2.1=m at*;refine wg (r_tip n m p.w p.m) ?_;have ht:=zvB n m p.w p.m;have cn:=zz1 v n;rw[zlr u D]at cn;have cm:=zz1 v m;rw[zlr u E]at cm;refine wd<|wg cn<|⟨Pt,ptE,[v,zw v n],rfl,wb0 ?_⟩;refine wh ?_
 have plain:(¬(p.j=1/\(u1 n m p.w p.m).2=true))->jc a v b p=kO (kH [v,zw v n,zw v m]):=λh=>by
  rw[e,Xc h]
 refine⟨λA:p.j=1=>?_,λA:¬p.j=1=>?_⟩
 .refine⟨λB=>?_,λB=>?_⟩
  .unfold zm at u;(iterate 2 refine wa ?_);refine⟨Pt,ptE,[zw v (u1 n m p.w p.m).1],rfl,wb0 ?_⟩;refine⟨[zw v (u1 n m p.w p.m).1],rfl,wb9 ?_⟩;refine wg cm<|⟨Pt,ptE,[zw v m],rfl,wb0 ?_⟩;refine⟨[zw v m],rfl,wb22 ?_⟩;refine zb.see 11 _ (zbC [v,zw v n,zw v (u1 n m p.w p.m).1,zw v m]) rfl rfl rfl λt=>?_;have f:=fin (kH [v,zw v n,zw v (u1 n m p.w p.m).1,zw v m]) (by rw[e,Xe ⟨A,B⟩]);refine⟨λz=>f.1 z,λz=>?_⟩;refine⟨LU,zk,[kH [v,zw v n,zw v (u1 n m p.w p.m).1,zw v m]],rfl,wb0 ?_⟩
   exact z6 (f.2 z).symm
  refine wg cm<|⟨Pt,ptE,[zw v m],rfl,wb0 ?_⟩;refine⟨[zw v m],rfl,wb9 ?_⟩;refine zb.see 9 _ (zbC [v,zw v n,zw v m]) rfl rfl rfl λt=>?_;have f:=fin (kH [v,zw v n,zw v m]) (plain λh=>B h.2);refine⟨λz=>f.1 z,λz=>?_⟩;refine⟨LU,zk,[kH [v,zw v n,zw v m]],rfl,wb0 ?_⟩;exact z6 (f.2 z).symm
 refine wg cm<|⟨Pt,ptE,[zw v m],rfl,wb0 ?_⟩;refine⟨[zw v m],rfl,wb9 ?_⟩;refine zb.see 9 _ (zbC [v,zw v n,zw v m]) rfl rfl rfl λt=>?_;have f:=fin (kH [v,zw v n,zw v m]) (plain λh=>A h.1);refine⟨λz=>f.1 z,λz=>?_⟩;refine⟨LU,zk,[kH [v,zw v n,zw v m]],rfl,wb0 ?_⟩;exact z6 (f.2 z).symm
def zlA{l:LZ}{i:Nat}{x:Pl}(h:l[i]?=some x):uC (l.take (i+1))=uC (l.take i)++if 3<=x.pts.length then[x.pts] else[]:=by
 unfold uC;rw[Xm,h]
 by_cases c:3<=x.pts.length
 .simp[c]
 simp[c]
def zrI(l:LZ):(uC l).length<=l.length:=by
 unfold uC;rw[Xw];exact Qb _ _
def zAw(l:LZ)(k:l.length<=4096)(j:∀q∈l,q.pts.length<=4096):CX 174 [.sl plE l] (.sl zk (uC l)):=by
 refine zc func174 λd=>?_;refine⟨Nat,λi=>⟨[(3,.own 0),(6,.sl plE l),(7,i64 l.length),(8,i64 i)],[(0,.arr 148 zk 1 (uC (l.take i)))],1,24,0⟩,λi=>i<=l.length,λi=>l.length-i,0,?_,?_,?_⟩
 .exact Xh _
 .exact zC [(0,none)]
 rintro i hi
 have a:=zrI (l.take i);rw[Xo]at a;refine⟨λg:(i:Int)<l.length=>?_,λg:¬(i:Int)<l.length=>?_⟩
 .refine wb λx(b:l[i]?=some x)=>?_;intro h;have e:=zlA b;refine⟨λc:(3:Int)<=x.pts.length=>?_,λc:¬(3:Int)<=x.pts.length=>?_⟩
  .refine wg ((zpn x.pts (j x (Xf b))).plain rfl)<|⟨LU,zk,[x.pts],rfl,wb0 ?_⟩;refine⟨[x.pts],rfl,wb14 ?_⟩;refine wa<|⟨i+1,oM,zt [3] ⟨aR ?_,tV⟩,oN⟩;rw[e,Xe oM]
  refine wa<|⟨i+1,oM,zt [0] ⟨aR ?_,tV⟩,oN⟩;rw[e,Xc oM,XC]
 exact z6 (by rw[Xi oM])
def zAx(l:LZ)(m:l.length<=4096)(j:∀q∈l,q.pts.length<=4096):CX 155 [.sl plE l] (.sl zk (uC l)):=by
 refine zc func155<|⟨LU,zk,[],rfl,wb2 ?_⟩;refine⟨Nat,λi=>⟨[(3,.own 0),(0,.sl plE l),(4,i64 i)],[(0,.arr 148 zk 1 (uC (l.take i)))],1,29,0⟩,λi=>i<=l.length,λi=>l.length-i,0,?_,?_,?_⟩
 .exact Xh _
 .exact zf [0]
 rintro i hi
 have a:=zrI (l.take i);rw[Xo]at a;intro d;refine⟨λg:(i:Int)<l.length=>?_,λg:¬(i:Int)<l.length=>?_⟩
 .refine wb λx(b:l[i]?=some x)=>?_;intro h;have e:=zlA b;refine⟨λc:(3:Int)<=x.pts.length=>?_,λc:¬(3:Int)<=x.pts.length=>?_⟩
  .refine wb λy k=>?_;have ey:y=x:=Xl ((show l[i]?=some y from k).symm.trans b);rw[ey];refine wg (zrt x.pts (j x (Xf b)))<|⟨LU,zk,[x.pts],rfl,wb0 ?_⟩;refine⟨[x.pts],rfl,wb14 ?_⟩;refine wa<|⟨i+1,oM,zt [2] ⟨aR ?_,tV⟩,oN⟩;rw[e,Xe oM]
  refine wa<|⟨i+1,oM,zt [0] ⟨aR ?_,tV⟩,oN⟩;rw[e,Xc oM,XC]
 exact z6 (by rw[Xi oM])
def zbg{a b c:Int}(g: -1048576<=a/\a<=1048576)(i: -1048576<=b/\b<=1048576)(j: -1048576<=c/\c<=1048576):
  (-4194304<=a-2*b+c/\a-2*b+c<=4194304)/\0<=(a-2*b+c)*(a-2*b+c)/\(a-2*b+c)*(a-2*b+c)<=17592186044416:=by
 have h: -4194304<=a-2*b+c/\a-2*b+c<=4194304:=oM;have d:=jB (A:=4194304) (B:=4194304) h h;have e:=jf (a-2*b+c);omega
def zag{a b c:Pt}(d:zm a)(e:zm b)(g:zm c):0<=yo a b c/\yo a b c<=35184372088832:=by
 have h:=zbg d.1 e.1 g.1;have i:=zbg d.2 e.2 g.2;unfold yo;omega
def zlB(a b c:Pt)(d:zm a)(e:zm b)(g:zm c):CX 425 [wk a,wk b,wk c] (i64 (yo a b c)):=by
 have h:=zbg d.1 e.1 g.1;have i:=zbg d.2 e.2 g.2;unfold zm at d e g;refine zc func425<|wc ?_;(iterate 9 refine wa ?_);exact .refl
def ztX(a b c:Pt)(d:zm a)(e:zm b)(g:zm c):CX 483 [wk a,wk b,wk c] (i64 (yo a b c)):=by
 have h:=zbg d.1 e.1 g.1;have i:=zbg d.2 e.2 g.2;unfold zm at d e g;refine zc func483 ?_;(iterate 9 refine wa ?_);exact .refl
def zgc{need tol:Int}{i:Nat}(h:i<=64):yF need tol (65-i) i=if enough need tol i then((i:Int),0) else yF need tol (65-(i+1)) (i+1):=by
 rw[show 65-i=(64-i)+1 by omega,yF,show 65-(i+1)=64-i by omega]
def zgd{i:Nat}{tol:Int}(hi:i<=64)(ht:1<=tol/\tol<=256):
  (-65536<=16*(i:Int)*i/\16*(i:Int)*i<=65536)/\(-4194304<=16*(i:Int)*i*i/\16*(i:Int)*i*i<=4194304)/\
  (-268435456<=16*(i:Int)*i*i*i/\16*(i:Int)*i*i*i<=268435456)/\(-68719476736<=16*(i:Int)*i*i*i*tol/\16*(i:Int)*i*i*i*tol<=68719476736)/\
  (-17592186044416<=16*(i:Int)*i*i*i*tol*tol/\16*(i:Int)*i*i*i*tol*tol<=17592186044416):=by
 have d:=jB (A:=1024) (B:=64) (a:=16*(i:Int)) (b:=i) oM oM;have e:=jB (A:=65536) (B:=64) (a:=16*(i:Int)*i) (b:=i) oM oM;have g:=jB (A:=4194304) (B:=64) (a:=16*(i:Int)*i*i) (b:=i) oM oM;have h:=jB (A:=268435456) (B:=256) (a:=16*(i:Int)*i*i*i) (b:=tol) oM oM;have j:=jB (A:=68719476736) (B:=256) (a:=16*(i:Int)*i*i*i*tol) (b:=tol) oM oM;omega
def zjs(c:Int×Int):SV:=.tup [i64 c.1,i64 c.2]
def uv{c:Int×Int}{a b:Int}(h:c=(a,b)):LE (.tup [i64 a,i64 b]) (zjs c):=by subst h;exact .refl
def zrJ(need tol:Int)(l:LU)(z:l.length<=4):CX 424 [i64 need,i64 tol,.sl ptE l] (zjs (kZ need tol l)):=by
 refine zc func424 ?_;have bad:¬(1<=tol/\tol<=256)->kZ need tol l=(0,2):=λh=>by unfold kZ;rw[Xe h]
 refine⟨λd=>uv (bad (λh=>by have d:tol<1:=d;omega)),λd=>?_⟩;refine⟨λj=>uv (bad (λh=>by have j:256<tol:=j;omega)),λj=>?_⟩;have ht:1<=tol/\tol<=256:=⟨by have d:¬tol<1:=d;omega,by have j:¬256<tol:=j;omega⟩;intro s;refine⟨Nat,λi=>⟨[(0,i64 need),(1,i64 tol),(17,.sl ptE l),(18,i64 l.length),(19,i64 i)],[],0,46,0⟩,λi=>i<=l.length/\∀p∈l.take i,zm p,λi=>l.length-i,0,?_,?_,?_⟩
 .exact⟨Xh _,λp a=>by cases a⟩
 .exact zC []
 rintro i ⟨u,m⟩
 refine⟨λg:(i:Int)<l.length=>?_,λg:¬(i:Int)<l.length=>?_⟩
 .refine wb λx(o:l[i]?=some x)=>?_;refine wg (qa x)<|⟨λb=>?_,λb=>?_⟩
  .refine uv ?_;unfold kZ;rw[kI ht,Xe (λk=>b (k x (Xf o)))]
  have b:=Xa.1 b;refine wa<|⟨i+1,⟨oM,λp a=>?_⟩,zC [],oN⟩;rw[Xm,o]at a
  rcases Xt.1 a with a|a
  .exact m p a
  simp at a;rw[a];exact b
 have t:∀p∈l,zm p:=by rw[Xi oM]at m;exact m
 have e:kZ need tol l=yF need tol 64 1:=by unfold kZ;rw[kI ht,kI t]
 refine⟨Nat,λi=>⟨[(0,i64 need),(1,i64 tol),(10,i64 i)],[],0,46,0⟩,λi=>1<=i/\i<=65/\yF need tol (65-i) i=yF need tol 64 1,λi=>65-i,1,?_,?_,?_⟩
 .exact⟨dC,dC,rfl⟩
 .exact zC []
 rintro i ⟨v,y,n⟩
 refine⟨λg:(i:Int)<=64=>?_,λg:¬(i:Int)<=64=>?_⟩
 .have ch:=zgd (i:=i) oM ht;have st:=zgc (need:=need) (tol:=tol) (i:=i) oM;rw[n]at st;(iterate 6 refine wa ?_);refine⟨λk:enough need tol i=>?_,λk:¬enough need tol i=>?_⟩
  .exact uv (by rw[e,st,Xe k])
  refine wa ?_;refine⟨i+1,⟨oM,oM,by rw[st,Xc k]⟩,zC [],oN⟩
 have q:i=65:=oM;subst q;exact uv (by rw[e,←n];rfl)
def zAy(tol:Int):CX 222 [i64 tol] (pr (zfG tol)):=by
 refine zc func222<|Br.mk (λh=>?_) (λh=>zd (λk=>h k.1));exact zB ⟨λk=>⟨h,k⟩,λk=>k.2⟩
def zpu(l:LU):CX 452 [.sl ptE l] (pr (∀p∈l,zm p)):=by
 refine zc func452<|⟨Nat,λi=>⟨[(0,.sl ptE l),(3,i64 i)],[],0,16,0⟩,λi=>i<=l.length/\∀p∈l.take i,zm p,λi=>l.length-i,0,?_,?_,?_⟩
 .exact⟨Xh _,λp a=>by cases a⟩
 .exact zC []
 rintro i ⟨j,d⟩
 intro h;refine⟨λg:(i:Int)<l.length=>?_,λg:¬(i:Int)<l.length=>?_⟩
 .refine wb λx(e:l[i]?=some x)=>?_;refine wg (ki x)<|⟨λb=>zd λk=>b (k x (Xf e)),λb=>?_⟩;have b:=Xa.1 b;refine wa<|⟨i+1,⟨oM,λp a=>?_⟩,zC [],oN⟩;rw[Xm,e]at a
  rcases Xt.1 a with a|a
  .exact d p a
  simp at a;rw[a];exact b
 rw[Xi oM]at d;exact zH d
def zDo(a b c:Pt)(tol:Int):CX 450 [.sl ptE [a,b,c],i64 tol,i64 1] (zjs (kZ (1*(yo a b c)) tol [a,b,c])):=by
 refine zc func450<|wg (zAy tol)<|⟨λj=>uv (by unfold kZ;rw[Xe (show¬(1<=tol/\tol<=256) from j)]),λj=>?_⟩;have ht:1<=tol/\tol<=256:=Xa.1 j;refine wg (zpu [a,b,c])<|⟨λl=>uv (by unfold kZ;rw[kI ht,Xe l]),λl=>?_⟩;have h:∀p∈[a,b,c],zm p:=Xa.1 l;have e:kZ (1*(yo a b c)) tol [a,b,c]=yF (1*(yo a b c)) tol 64 1:=by unfold kZ;rw[kI ht,kI h]
 have n:=h a sI;have o:=h b sI;have q:=h c sI;have y:=zag n o q;refine wc<|Ob.mk (by show(0:Int)<=0/\(0:Int)<(3:Nat);decide) λx d=>?_
 cases (show some a=some x from d)
 refine Ob.mk (by show(0:Int)<=1/\(1:Int)<(3:Nat);decide) λx d=>?_
 cases (show some b=some x from d)
 refine Ob.mk (by show(0:Int)<=2/\(2:Int)<(3:Nat);decide) λx d=>?_
 cases (show some c=some x from d)
 refine wg (ztX a b c n o q) λv=>?_;refine⟨λk=>absurd k (by show¬(3:Int)<(3:Nat);decide),λ_=>?_⟩;generalize hD:yo a b c=D at*;have rD:0<=D/\D<=35184372088832:=oM;refine⟨Nat,λi=>⟨[(1,i64 tol),(2,i64 1),(8,i64 D),(9,i64 i)],[],0,62,0⟩,λi=>1<=i/\i<=65/\yF (1*D) tol (65-i) i=yF (1*D) tol 64 1,λi=>65-i,1,?_,?_,?_⟩
 .exact⟨dC,dC,rfl⟩
 .exact zC []
 rintro i ⟨t,u,m⟩
 refine⟨λg:(i:Int)<=64=>?_,λg:¬(i:Int)<=64=>?_⟩
 .have ch:=zgd (i:=i) oM ht;have st:=zgc (need:=1*D) (tol:=tol) (i:=i) oM;rw[m]at st;(iterate 7 refine wa ?_);refine⟨λk:enough (1*D) tol i=>?_,λk:¬enough (1*D) tol i=>?_⟩
  .exact uv (by rw[e,st,Xe k])
  refine wa ?_;refine⟨i+1,⟨oM,oM,by rw[st,Xc k]⟩,zC [],oN⟩
 have s:i=65:=oM;subst s;exact uv (by rw[e,←m];rfl)
def zDp(a b c d:Pt)(tol:Int):CX 450 [.sl ptE [a,b,c,d],i64 tol,i64 9] (zjs (kZ (9*(max (yo a b c) (yo b c d))) tol [a,b,c,d])):=by
 refine zc func450<|wg (zAy tol)<|⟨λn=>uv (by unfold kZ;rw[Xe (show¬(1<=tol/\tol<=256) from n)]),λn=>?_⟩;have ht:1<=tol/\tol<=256:=Xa.1 n;refine wg (zpu [a,b,c,d])<|⟨λo=>uv (by unfold kZ;rw[kI ht,Xe o]),λo=>?_⟩;have j:∀p∈[a,b,c,d],zm p:=Xa.1 o;have e:kZ (9*(max (yo a b c) (yo b c d))) tol [a,b,c,d]=yF (9*(max (yo a b c) (yo b c d))) tol 64 1:=by unfold kZ;rw[kI ht,kI j]
 have s:=j a sI;have l:=j b sI;have m:=j c sI;have t:=j d sI;have A:=zag s l m;have B:=zag l m t;refine wc<|Ob.mk (by show(0:Int)<=0/\(0:Int)<(4:Nat);decide) λx h=>?_
 cases (show some a=some x from h)
 refine Ob.mk (by show(0:Int)<=1/\(1:Int)<(4:Nat);decide) λx h=>?_
 cases (show some b=some x from h)
 refine Ob.mk (by show(0:Int)<=2/\(2:Int)<(4:Nat);decide) λx h=>?_
 cases (show some c=some x from h)
 refine wg (ztX a b c s l m) λz=>?_;refine⟨λ_=>?_,λk=>absurd (show(3:Int)<(4:Nat) by decide) k⟩;refine wc<|Ob.mk (by show(0:Int)<=1/\(1:Int)<(4:Nat);decide) λx h=>?_
 cases (show some b=some x from h)
 refine Ob.mk (by show(0:Int)<=2/\(2:Int)<(4:Nat);decide) λx h=>?_
 cases (show some c=some x from h)
 refine Ob.mk (by show(0:Int)<=3/\(3:Int)<(4:Nat);decide) λx h=>?_
 cases (show some d=some x from h)
 refine wg (ztX b c d l m t) ?_;generalize hD:max (yo a b c) (yo b c d)=D at*;have rD:0<=D/\D<=35184372088832:=oM;refine⟨Nat,λi=>⟨[(1,i64 tol),(2,i64 9),(8,i64 D),(9,i64 i)],[],0,62,0⟩,λi=>1<=i/\i<=65/\yF (9*D) tol (65-i) i=yF (9*D) tol 64 1,λi=>65-i,1,?_,?_,?_⟩
 .exact⟨dC,dC,rfl⟩
 .exact jo [] ⟨rfl,rfl,iR hD,rfl,tV⟩ trivial
 rintro i ⟨v,y,q⟩
 refine⟨λg:(i:Int)<=64=>?_,λg:¬(i:Int)<=64=>?_⟩
 .have ch:=zgd (i:=i) oM ht;have st:=zgc (need:=9*D) (tol:=tol) (i:=i) oM;rw[q]at st;(iterate 7 refine wa ?_);refine⟨λk:enough (9*D) tol i=>?_,λk:¬enough (9*D) tol i=>?_⟩
  .exact uv (by rw[e,st,Xe k])
  refine wa ?_;refine⟨i+1,⟨oM,oM,by rw[st,Xc k]⟩,zC [],oN⟩
 have u:i=65:=oM;subst u;exact uv (by rw[e,←q];rfl)
def zxr(a b c:Pt)(tol:Int)(d:zm a)(e:zm b)(g:zm c):CX 364 [.agg (ptE a++ptE b++ptE c),i64 tol] (zjs (jY a b c tol)):=by
 refine zc func364<|zgz.data<|wc ?_;have h:=zag d e g;refine wg (zlB a b c d e g)<|⟨Pt,ptE,[a,b,c],rfl,wb13 ?_⟩;exact wg (zrJ (yo a b c) tol [a,b,c] (by show 3<=4;decide))<|.refl
def zxs(a b c:Pt)(tol:Int):CX 401 [.agg (ptE a++ptE b++ptE c),i64 tol] (zjs (jY a b c tol)):=by
 refine zc func401<|zgz.data<|⟨Pt,ptE,[a,b,c],rfl,wb0 ?_⟩;have d:=zDo a b c tol;rw[Yb]at d;exact zb.see 0 _ d rfl rfl rfl<|.refl
def zxt(a b c d:Pt)(tol:Int)(h:zm a)(e:zm b)(g:zm c)(i:zm d):CX 369 [.agg (ptE a++ptE b++ptE c++ptE d),i64 tol] (zjs (jZ a b c d tol)):=by
 refine zc func369<|zgz.data<|wc ?_;have j:=zag h e g;refine wg (zlB a b c h e g) ?_;have k:=zag e g i;refine wg (zlB b c d e g i)<|Ar.fit (by show-9223372036854775808<=9*max (yo a b c) (yo b c d)/\9*max (yo a b c) (yo b c d)<=9223372036854775807;omega)<|⟨Pt,ptE,[a,b,c,d],rfl,wb13 ?_⟩;exact wg (zrJ (9*max (yo a b c) (yo b c d)) tol [a,b,c,d] (by show 4<=4;decide))<|.refl
def zxu(a b c d:Pt)(tol:Int):CX 403 [.agg (ptE a++ptE b++ptE c++ptE d),i64 tol] (zjs (jZ a b c d tol)):=by
 refine zc func403<|zgz.data<|⟨Pt,ptE,[a,b,c,d],rfl,wb0 ?_⟩;have e:=zDp a b c d tol;exact zb.see 0 _ e rfl rfl rfl<|.refl
def zAz(a b:Int)(h: -8796093022208<=a/\a<=8796093022208)(i:0<b/\b<=1048576):CX 429 [i64 a,i64 b] (i64 (zee a b)):=by
 have td:=tdm (m:=2*a+b) (n:=2*b) oM;have tr:=zkQ (m:=2*a+b) (n:=2*b) oM ⟨oM,oM⟩;refine zc func429 ?_;(iterate 3 refine wa ?_);have e:zee a b=(2*a+b)/(2*b):=rfl;have g:=tr.2 oM;have d:=tr.1;clear tr;refine Dv.any (by omega:2*b≠0)<|Ar.fit d<|Dv.any (by omega:2*b≠0)<|⟨λk=>?_,λk=>?_⟩
 .have k:(2*a+b).tmod (2*b)<0:=k;exact Ar.fit (by unfold R64 at d;omega)<|ze (by rw[e];omega)
 have k:¬(2*a+b).tmod (2*b)<0:=k;exact ze (by rw[e];omega)
def zjX(a b:Int)(i: -8796093022208<=a/\a<=8796093022208)(j:0<b/\b<=1048576):CX 453 [i64 a,i64 b] (i64 (zee a b)):=by
 have td:=tdm (m:=2*a+b) (n:=2*b) oM;have tr:=zkQ (m:=2*a+b) (n:=2*b) oM ⟨oM,oM⟩;refine zc func453 ?_;(iterate 3 refine wa ?_);have e:zee a b=(2*a+b)/(2*b):=rfl;have h:=tr.2 oM;have g:=tr.1;clear tr;refine Dv.any (by omega:2*b≠0)<|Ar.fit g ?_;(iterate 2 refine wa ?_);refine⟨λk:2*a+b<0=>?_,λk:¬2*a+b<0=>?_⟩
 ·(iterate 3 refine wa ?_);refine Dv.any (by omega:2*b≠0)<|⟨λd=>?_,λd=>?_⟩
  .have d:¬(2*a+b).tmod (2*b)=0:=d;exact Ar.fit (by unfold R64 at g;omega)<|ze (by rw[e];omega)
  have d:(2*a+b).tmod (2*b)=0:=Xa.1 d;exact ze (by rw[e];omega)
 exact ze (by rw[e];omega)
def zvD(i n:Int):CX 451 [i64 i,i64 n] (pr (1<=n/\n<=64/\0<=i/\i<=n)):=by
 refine zc func451<|Br.mk (λa=>?_) (λa=>zd (λk=>a k.1));refine⟨λb=>?_,λb=>zd (λk=>b k.2.1)⟩;refine⟨λd=>?_,λd=>zd (λk=>d k.2.2.1)⟩;exact zB ⟨λe=>⟨a,b,d,e⟩,λh=>h.2.2.2⟩
def zAA(l:LU)(i n:Int)(u:l.length<=4):CX 427 [.sl ptE l,i64 i,i64 n] (pr (zrr l i n)):=by
 refine zc func427 λs=>?_;refine⟨Nat,λk=>⟨[(1,i64 i),(2,i64 n),(9,.sl ptE l),(10,i64 l.length),(11,i64 k)],[],0,34,0⟩,λk=>k<=l.length/\∀p∈l.take k,zm p,λk=>l.length-k,0,?_,?_,?_⟩
 .exact⟨Xh _,λp a=>by cases a⟩
 .exact zC []
 rintro k ⟨e,d⟩
 refine⟨λg:(k:Int)<l.length=>?_,λg:¬(k:Int)<l.length=>?_⟩
 .refine wb λx(m:l[k]?=some x)=>?_;refine wg (qa x)<|⟨λb=>zd λq=>b (q.1 x (Xf m)),λb=>?_⟩;have b:=Xa.1 b;refine wa<|⟨k+1,⟨oM,λp a=>?_⟩,zC [],oN⟩;rw[Xm,m]at a
  rcases Xt.1 a with a|a
  .exact d p a
  simp at a;rw[a];exact b
 have t:∀p∈l,zm p:=by rw[Xi oM]at d;exact d
 refine⟨λe=>?_,λe=>zd (λk=>e k.2.1)⟩;refine⟨λd=>?_,λd=>zd (λk=>d k.2.2.1)⟩;refine⟨λj=>?_,λj=>zd (λk=>j k.2.2.2.1)⟩;exact zB ⟨λo=>⟨t,e,d,j,o⟩,λh=>h.2.2.2.2⟩
def zpv{k i n x y z:Int}(p:0<=k/\k<=64)(hi:0<=i/\i<=64)(q:1<=n/\n<=64)(s: -1048576<=x/\x<=1048576)(t: -1048576<=y/\y<=1048576)(u: -1048576<=z/\z<=1048576):
  (-4096<=k*k/\k*k<=4096)/\(-4294967296<=k*k*x/\k*k*x<=4294967296)/\(-8192<=2*i*k/\2*i*k<=8192)/\(-8589934592<=2*i*k*y/\2*i*k*y<=8589934592)/\
  (-4096<=i*i/\i*i<=4096)/\(-4294967296<=i*i*z/\i*i*z<=4294967296)/\(0<n*n/\n*n<=4096):=by
 have d:=jB (A:=64) (B:=64) (a:=k) (b:=k) oM oM;have e:=jB (A:=4096) (B:=1048576) (a:=k*k) (b:=x) oM oM;have g:=jB (A:=128) (B:=64) (a:=2*i) (b:=k) oM oM;have h:=jB (A:=8192) (B:=1048576) (a:=2*i*k) (b:=y) oM oM;have j:=jB (A:=64) (B:=64) (a:=i) (b:=i) oM oM;have l:=jB (A:=4096) (B:=1048576) (a:=i*i) (b:=z) oM oM;have m:=jB (A:=64) (B:=64) (a:=n) (b:=n) oM oM;have o:=QZ (show 0<n by omega) (show 0<n by omega);omega
def zpw{k i n x y z u:Int}(s:0<=k/\k<=64)(hi:0<=i/\i<=64)(t:1<=n/\n<=64)(C: -1048576<=x/\x<=1048576)(D: -1048576<=y/\y<=1048576)(E: -1048576<=z/\z<=1048576)(v: -1048576<=u/\u<=1048576):
  ((-4096<=k*k/\k*k<=4096)/\(-262144<=k*k*k/\k*k*k<=262144)/\(-274877906944<=k*k*k*x/\k*k*k*x<=274877906944))/\
  ((-12288<=3*i*k/\3*i*k<=12288)/\(-786432<=3*i*k*k/\3*i*k*k<=786432)/\(-824633720832<=3*i*k*k*y/\3*i*k*k*y<=824633720832))/\
  ((-12288<=3*i*i/\3*i*i<=12288)/\(-786432<=3*i*i*k/\3*i*i*k<=786432)/\(-824633720832<=3*i*i*k*z/\3*i*i*k*z<=824633720832))/\
  ((-4096<=i*i/\i*i<=4096)/\(-262144<=i*i*i/\i*i*i<=262144)/\(-274877906944<=i*i*i*u/\i*i*i*u<=274877906944))/\((0<n*n/\n*n<=4096)/\(0<n*n*n/\n*n*n<=262144)):=by
 have e:=jB (A:=64) (B:=64) (a:=k) (b:=k) oM oM;have g:=jB (A:=4096) (B:=64) (a:=k*k) (b:=k) oM oM;have h:=jB (A:=262144) (B:=1048576) (a:=k*k*k) (b:=x) oM oM;have j:=jB (A:=192) (B:=64) (a:=3*i) (b:=k) oM oM;have l:=jB (A:=12288) (B:=64) (a:=3*i*k) (b:=k) oM oM;have m:=jB (A:=786432) (B:=1048576) (a:=3*i*k*k) (b:=y) oM oM;have o:=jB (A:=192) (B:=64) (a:=3*i) (b:=i) oM oM;have p:=jB (A:=12288) (B:=64) (a:=3*i*i) (b:=k) oM oM
 have q:=jB (A:=786432) (B:=1048576) (a:=3*i*i*k) (b:=z) oM oM;have F:=jB (A:=64) (B:=64) (a:=i) (b:=i) oM oM;have G:=jB (A:=4096) (B:=64) (a:=i*i) (b:=i) oM oM;have I:=jB (A:=262144) (B:=1048576) (a:=i*i*i) (b:=u) oM oM;have J:=jB (A:=64) (B:=64) (a:=n) (b:=n) oM oM;have K:=jB (A:=4096) (B:=64) (a:=n*n) (b:=n) oM oM;have d:=QZ (show 0<n by omega) (show 0<n by omega);have L:=QZ d (show 0<n by omega);omega
def znF(x y z k i n:Int)(a:0<=k/\k<=64)(hi:0<=i/\i<=64)(b:1<=n/\n<=64)(d: -1048576<=x/\x<=1048576)(e: -1048576<=y/\y<=1048576)(g: -1048576<=z/\z<=1048576):
  CX 428 [i64 x,i64 y,i64 z,.ptr [i64 k],.ptr [i64 i],.ptr [i64 n]] (i64 (zee (k*k*x+2*i*k*y+i*i*z) (n*n))):=by
 have t:=zpv a hi b d e g;refine zc func428 ?_;(iterate 10 refine wa ?_);exact wg (zAz (k*k*x+2*i*k*y+i*i*z) (n*n) oM oM)<|.refl
def znG{a b c:Pt}{i n:Int}(h:zrr [a,b,c] i n):yY a b c i n=⟨q1 i n a.x b.x c.x,q1 i n a.y b.y c.y⟩:=by
 unfold yY;rw[kI h]
def zAB(a b c:Pt)(i n:Int):CX 368 [.agg (ptE a++ptE b++ptE c),i64 i,i64 n] (wk (yY a b c i n)):=by
 refine zc func368<|zgz.data<|wc<|⟨Pt,ptE,[a,b,c],rfl,wb13 ?_⟩;refine wg (zAA [a,b,c] i n (by show 3<=4;decide))<|⟨λh=>?_,λh=>?_⟩
 .refine ue (show SV.agg (ptE zp)=_ from ?_);unfold yY;rw[Xe h]
 have h:=Xa.1 h;obtain⟨d,m,o,k,l⟩:=h;have e:=d a sI;have g:=d b sI;have j:=d c sI;exact wa<|wc<|wg (znF a.x b.x c.x (n-i) i n oM oM oM e.1 g.1 j.1)<|wg (znF a.y b.y c.y (n-i) i n oM oM oM e.2 g.2 j.2)<|ue (Xg (λp=>SV.agg (ptE p)) (znG ⟨d,m,o,k,l⟩).symm)
def zAC(a b c:Pt)(i n:Int):CX 402 [.agg (ptE a++ptE b++ptE c),i64 i,i64 n] (wk (yY a b c i n)):=by
 refine zc func402<|zgz.data ?_
 have bad:¬zrr [a,b,c] i n->LE (wk zp) (wk (yY a b c i n)):=λh=>by
  refine ue ?_;unfold yY;rw[Xe h]
 refine wg (zvD i n)<|⟨λh=>bad λk=>h ⟨k.2.1,k.2.2.1,k.2.2.2.1,k.2.2.2.2⟩,λh=>?_⟩;refine⟨Pt,ptE,[a,b,c],rfl,wb0 ?_⟩;refine zb.see 1 _ (zpu [a,b,c]) rfl rfl rfl<|Br.mk (λe=>bad λk=>e k.1) (λe=>?_);obtain⟨q,s,m,o⟩:=Xa.1 h;have d:=Xa.1 e;have g:=d a sI;have j:=d b sI;have l:=d c sI;have t:=zpv (k:=n-i) (i:=i) (n:=n) oM oM oM g.1 j.1 l.1;have u:=zpv (k:=n-i) (i:=i) (n:=n) oM oM oM g.2 j.2 l.2;refine wa ?_
 (iterate 19 refine wa ?_);exact wg (zjX ((n-i)*(n-i)*a.x+2*i*(n-i)*b.x+i*i*c.x) (n*n) oM oM)<|wa<|wg (zjX ((n-i)*(n-i)*a.y+2*i*(n-i)*b.y+i*i*c.y) (n*n) oM oM)<|ue (Xg (λp=>SV.agg (ptE p)) (znG ⟨d,q,s,m,o⟩).symm)
def znH(x y z u k i n:Int)(a:0<=k/\k<=64)(hi:0<=i/\i<=64)(b:1<=n/\n<=64)(e: -1048576<=x/\x<=1048576)(g: -1048576<=y/\y<=1048576)(h: -1048576<=z/\z<=1048576)(d: -1048576<=u/\u<=1048576):
  CX 430 [i64 x,i64 y,i64 z,i64 u,.ptr [i64 k],.ptr [i64 i],.ptr [i64 n]] (i64 (zee (k*k*k*x+3*i*k*k*y+3*i*i*k*z+i*i*i*u) (n*n*n))):=by
 have t:=zpw a hi b e g h d;refine zc func430 ?_;(iterate 19 refine wa ?_);exact wg (zAz (k*k*k*x+3*i*k*k*y+3*i*i*k*z+i*i*i*u) (n*n*n) oM oM)<|.refl
def znI{a b c d:Pt}{i n:Int}(h:zrr [a,b,c,d] i n):yZ a b c d i n=⟨c1 i n a.x b.x c.x d.x,c1 i n a.y b.y c.y d.y⟩:=by
 unfold yZ;rw[kI h]
def zAD(a b c d:Pt)(i n:Int):CX 371 [.agg (ptE a++ptE b++ptE c++ptE d),i64 i,i64 n] (wk (yZ a b c d i n)):=by
 refine zc func371<|zgz.data<|wc<|⟨Pt,ptE,[a,b,c,d],rfl,wb13 ?_⟩;refine wg (zAA [a,b,c,d] i n (by show 4<=4;decide))<|⟨λh=>?_,λh=>?_⟩
 .refine ue (show SV.agg (ptE zp)=_ from ?_);unfold yZ;rw[Xe h]
 have h:=Xa.1 h;obtain⟨e,q,s,m,o⟩:=h;have g:=e a sI;have j:=e b sI;have k:=e c sI;have l:=e d sI;exact wa<|wc<|wg (znH a.x b.x c.x d.x (n-i) i n oM oM oM g.1 j.1 k.1 l.1)<|wg (znH a.y b.y c.y d.y (n-i) i n oM oM oM g.2 j.2 k.2 l.2)<|ue (Xg (λp=>SV.agg (ptE p)) (znI ⟨e,q,s,m,o⟩).symm)
def zAE(a b c d:Pt)(i n:Int):CX 404 [.agg (ptE a++ptE b++ptE c++ptE d),i64 i,i64 n] (wk (yZ a b c d i n)):=by
 refine zc func404<|zgz.data ?_
 have bad:¬zrr [a,b,c,d] i n->LE (wk zp) (wk (yZ a b c d i n)):=λh=>by
  refine ue ?_;unfold yZ;rw[Xe h]
 refine wg (zvD i n)<|⟨λh=>bad λk=>h ⟨k.2.1,k.2.2.1,k.2.2.2.1,k.2.2.2.2⟩,λh=>?_⟩;refine⟨Pt,ptE,[a,b,c,d],rfl,wb0 ?_⟩;refine zb.see 1 _ (zpu [a,b,c,d]) rfl rfl rfl<|Br.mk (λg=>bad λk=>g k.1) (λg=>?_);obtain⟨t,u,q,s⟩:=Xa.1 h;have e:=Xa.1 g;have j:=e a sI;have l:=e b sI;have m:=e c sI;have o:=e d sI;have v:=zpw (k:=n-i) (i:=i) (n:=n) oM oM oM j.1 l.1 m.1 o.1
 have z:=zpw (k:=n-i) (i:=i) (n:=n) oM oM oM j.2 l.2 m.2 o.2;(iterate 32 refine wa ?_)
 (iterate 5 refine wa ?_);refine wg (zjX ((n-i)*(n-i)*(n-i)*a.x+3*i*(n-i)*(n-i)*b.x+3*i*i*(n-i)*c.x+i*i*i*d.x) (n*n*n) oM oM) ?_;(iterate 2 refine wa ?_);exact wg (zjX ((n-i)*(n-i)*(n-i)*a.y+3*i*(n-i)*(n-i)*b.y+3*i*i*(n-i)*c.y+i*i*i*d.y) (n*n*n) oM oM)<|ue (Xg (λp=>SV.agg (ptE p)) (znI ⟨e,t,u,q,s⟩).symm)
def zhg(prev:SV->SV)(lm:LJ):SV->SV
 |.loc k off=>(match lm k with
  |some (.box _ a)=>.dptr ((a.map prev).drop off)
  |_=>.junk)
 |.own k=>(match lm k with
  |some (.arr _ enc _ xs)=>.sl enc xs
  |_=>.junk)
 |.fn f a=>.dfn f (frzs prev lm a)
 |.agg a=>.agg (frzs prev lm a)
 |.ifc t s=>.ifc t (zhg prev lm s)
 |.val v=>.val v
 |.pr p i=>.pr p i
 |.sl enc xs=>.sl enc xs
 |.dptr a=>.dptr a
 |.dfn f a=>.dfn f a
 |.bm f a=>.bm f a
 |.op v=>.op v
 |.nils=>.nils
 |.anyb=>.anyb
 |.full enc xs=>.full enc xs
 |_=>.junk
 where
 frzs (prev:SV->SV) (lm:LJ):LR->LR
  |[]=>[]
  |c::a=>zhg prev lm c::frzs prev lm a
def frz(lm:LJ):Nat->SV->SV
 |0=>zhg (λ_=>.junk) lm
 |n+1=>zhg (frz lm n) lm
def zjG(lm:LJ)(n:Nat)(s:SV):SV:=
 match s with
 |.tup a=>.tup (a.map (frz lm n))
 |s=>frz lm n s
def zlC(prev:SV->SV)(lm:LJ):∀a,zhg.frzs prev lm a=a.map (zhg prev lm)
 |[]=>rfl
 |c::a=>by rw[zhg.frzs,zlC prev lm a];rfl
section
variable{Keep:LI}{M:LT}{O:zh}{w:World}{lm:LJ}
def zAF(B:∀k m,lm k=some m->(k,m)∈M)(F:zJ Keep M O w){prev:SV->SV}(R:∀{s:SV} {v:Value},G (λb=>Keep b∨Own M O b) (Own M O) O w s v->D Keep w (prev s) v):
  ∀(s:SV) {v:Value},G (λb=>Keep b∨Own M O b) (Own M O) O w s v->D Keep w (zhg prev lm s) v:=by
 have g:∀b,Keep b->Keep b∨Own M O b:=λb h=>.inl h
 intro s
 induction s using SV.rec (motive_2:=λn=>∀{vs:LA},Gs (λb=>Keep b∨Own M O b) (Own M O) O w n vs->∀(j:Nat) (s:SV) (v:Value),(zhg.frzs prev lm n)[j]?=some s->vs[j]?=some v->D Keep w s v) with
 |val v=>intro u e;rw[e.val_inv];exact .val v
 |pr p i=>intro u e;rw[e.pr_inv];exact .pr p i
 |sl enc xs=>intro u e;exact e.sl_inv.less g
 |nils=>intro u e;obtain⟨a,rfl⟩:=e.nils_inv;exact .nils a
 |anyb=>intro u e;obtain⟨b,rfl⟩:=e.anyb_inv;exact .anyb b
 |full enc xs=>intro u e;obtain⟨a,rfl,N⟩:=e.full_inv;exact .full enc xs a (N.less g)
 |dptr n _=>intro u e;cases e with|d _ _ h=>exact h.less g
 |dfn f n _=>intro u e;cases e with|d _ _ h=>exact h.less g
 |bm f n _=>intro u e;cases e with|d _ _ h=>exact h.less g
 |op v=>intro u e;cases e with|d _ _ h=>exact h.less g
 |ifc t s C=>
  intro u e;obtain⟨v,rfl,x⟩:=e.ifc_inv;exact .ifc t _ v (C x)
 |agg n C=>
  intro u e;obtain⟨vs,rfl,q⟩:=e.agg_inv;exact .agg _ vs (by rw[zlC,Xw];exact q.1) (C q)
 |fn f n C=>
  intro u e;obtain⟨vs,rfl,q⟩:=e.fn_inv;exact .dfn f _ vs (by rw[zlC,Xw];exact q.1) (C q)
 |loc k off=>
  intro u e;obtain⟨b,hρ,rfl⟩:=e.loc_inv;simp only[zhg]
  split
  .rename_i T n A;have l:=B k _ A;obtain⟨U,vs,z,J,V,K,L⟩:=F.rel k _ l;rw[hρ]at z;cases z
   have y:=F.old b ⟨k,_,_,l,hρ,rfl⟩;refine .dptr _ b off (λj=>(vs[off+j]?).getD undef) y.1 y.2 (λj Q=>?_) (λj s I=>?_)
   .have o:off+j<vs.length:=by simp at Q;omega
    rw[zch J];simp only[Xb o,KP];exact⟨tV,K _ (X2 o)⟩
   rw[KG,XD]at I
   cases E:n[off+j]? with
   |none=>simp[E]at I
   |some c=>
    simp[E]at I;subst I;have o:off+j<vs.length:=by have:=(Xd.1 E).1;omega
    rw[Xb o,KP];exact R (L _ c _ E (Xb o))
  exact .junk _
 |own k=>
  intro u e;obtain⟨hρ,z⟩:=e.own_inv;simp only[zhg]
  split
  .rename_i T α enc sz xs A;have l:=B k _ A;exact zgC F l (λb y=>.inl y) (λv b x y A=>(F.old b ⟨k,_,v,l,x,y⟩).2 A) hρ
  exact .junk _
 |ptr n _=>intro u _;exact .junk _
 |eloc _ _ _ _=>intro u _;exact .junk _
 |win _ _ _ _=>intro u _;exact .junk _
 |tup n _=>intro u _;exact .junk _
 |junk=>intro u _;exact .junk _
 |nil=>rename_i vs _ j s v h _;simp[zhg.frzs]at h
 |cons c n ihc ihcs=>
  rename_i vs e j s v h x;obtain⟨W,S,rfl,z,J⟩:=e.cons_inv
  cases j with
  |zero=>simp[zhg.frzs]at h x;subst h;subst x;exact ihc z
  |succ j=>exact ihcs J j s v (by simpa[zhg.frzs] using h) (by simpa using x)
def znJ(a:∀k m,lm k=some m->(k,m)∈M)(d:zJ Keep M O w):∀(n:Nat) {s:SV} {v:Value},G (λb=>Keep b∨Own M O b) (Own M O) O w s v->D Keep w (frz lm n s) v
 |0,s,_,h=>zAF a d (λ_=>.junk _) s h
 |n+1,s,_,h=>zAF a d (λh=>znJ a d n h) s h
end
section
def endF(n:Nat)(H:LS)(rs:List ResultVar)(r:SV)(e:Ex)(Z:St):Prop:=
 match e with
 |.exit _=>False
 |_=>zbm Z H rs λs=>LE (zjG (zW Z.M) n s) r
variable{P:Program}{H:LS}{f:FuncId}{fn:Func}{c:Code}{r:SV}
def zah(n:Nat)(hT:TOK P H)(F:P.follows .mixedOrders=true){args:LR}(C:P.funcs[f]?=some fn)(i:fn.body=some c)(u:(fn.name== "runtime.NumGoroutine")=false) (l:Nat.ble args.length fn.ntmps=true)
  (h:jw P H c ⟨jm 0 args,[],0,fn.ntmps,0⟩ (endF n H fn.results.toList r)):qg P f args [] r []:=by
 refine v8 hT F C i u l h (λe Z h=>⟨Z,.refl,h⟩) (λe Z o B=>?_) (λid Z o=>o)
 have o:zbm Z H fn.results.toList λs=>LE (zjG (zW Z.M) n s) r:=by
  cases e with
  |exit id=>exact absurd rfl (B id)
  |normal=>exact o
  |ret=>exact o
 obtain⟨s,l,A⟩:=jL hT o;refine⟨s,A,λ{E O a w v} q hW _ y=>⟨O,?_,?_,?_⟩⟩
 .have g:=q.stp;exact⟨g.os,g.tape,g.output,g.size,λb i u=>g.block b i λh=>u ((hW b).1 h),λb i=>absurd i zN,g.rho⟩
 .exact(qr q.mem.kp λ_ _ h=>q.mem.glc h)
 have x:∀{s:SV} {v:Value},G (λb=>E.Keep b∨Own Z.M O b) (Own Z.M O) O w s v->D (λb=>E.Keep b∨Own [] O b) w (frz (zW Z.M) n s) v:=λh=>
  (znJ (λk m h=>zA h) q.mem n h).less λb i=>i.resolve_right zN
 refine l _ _ _ _ _ ?_;unfold zjG
 split
 .rename_i z;obtain⟨vs,rfl,p⟩:=y.tup_inv;refine .tup _ vs (by rw[Xw];exact p.1) λj s v g I=>?_
  rw[XD]at g
  cases t:z[j]? with
  |none=>simp[t]at g
  |some c=>
   simp[t]at g;subst g;exact .d _ _ (x (p.2 j c v t I))
 exact .d _ _ (x y)
def zjt(n:Nat)(hT:TOK P H)(F:P.follows .mixedOrders=true){args:LR}{M:LT}(C:P.funcs[f]?=some fn)(i:fn.body=some c)(u:(fn.name== "runtime.NumGoroutine")=false) (l:Nat.ble args.length fn.ntmps=true)
  (h:jw P H c ⟨jm 0 args,M,M.length,fn.ntmps,M.length⟩ (endF n H fn.results.toList r)):qg P f args M r []:=by
 refine v8 hT F C i u l h (λe Z h=>⟨Z,.refl,h⟩) (λe Z o B=>?_) (λid Z o=>o)
 have o:zbm Z H fn.results.toList λs=>LE (zjG (zW Z.M) n s) r:=by
  cases e with
  |exit id=>exact absurd rfl (B id)
  |normal=>exact o
  |ret=>exact o
 obtain⟨s,l,A⟩:=jL hT o;refine⟨s,A,λ{E O a w v} q hW _ y=>⟨O,?_,?_,?_⟩⟩
 .have g:=q.stp;exact⟨g.os,g.tape,g.output,g.size,λb i u=>g.block b i λh=>u ((hW b).1 h),λb i=>absurd i zN,g.rho⟩
 .exact(qr q.mem.kp λ_ _ h=>q.mem.glc h)
 have x:∀{s:SV} {v:Value},G (λb=>E.Keep b∨Own Z.M O b) (Own Z.M O) O w s v->D (λb=>E.Keep b∨Own [] O b) w (frz (zW Z.M) n s) v:=λh=>
  (znJ (λk m h=>zA h) q.mem n h).less λb i=>i.resolve_right zN
 refine l _ _ _ _ _ ?_;unfold zjG
 split
 .rename_i z;obtain⟨vs,rfl,p⟩:=y.tup_inv;refine .tup _ vs (by rw[Xw];exact p.1) λj s v g I=>?_
  rw[XD]at g
  cases t:z[j]? with
  |none=>simp[t]at g
  |some c=>
   simp[t]at g;subst g;exact .d _ _ (x (p.2 j c v t I))
 exact .d _ _ (x y)
end
end Go.Gs
