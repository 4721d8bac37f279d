/- A joint, both texts. -/
import Derived.Test.YtdkomlilfdbahaaGreatDoorMAR
import Derived.RangeFuncRecord
import Derived.OrdersIn
import Derived.TacticsIn
set_option maxRecDepth 100000
set_option maxHeartbeats 80000000
set_option linter.all false
namespace Go.Gs
open Proofs.Tryz
open Go.Proofs
def zkh{w:Int}{p:Pt}(b:kq w)(h:zhv w p):zm p:=by unfold kq at b;unfold zhv at h;unfold zm;omega
def zv9(n m:Pt)(w b:Int):S50 (u5 n m w b).1.x/\S50 (u5 n m w b).1.y:=by
 unfold u5
 split
 .exact⟨dC,dC⟩
 rename_i h;obtain⟨i,g,e,_⟩:=Xa.1 h;have d:=ziP i g;dsimp only
 split
 .exact⟨dC,dC⟩
 generalize zA n m=s at*;have t:=zcI d.1 e;have j:=zcI d.2 e;exact⟨u6 (M:=1125899906842624) oM,u6 (M:=1125899906842624) oM⟩
def zwa{a v b:Pt}{p:Pen}(h:kF p/\zm a/\zm v/\zm b/\¬v=a/\¬v=b):jh a v b p=
  if p.j=3 then kS (vZ v p.w) else if (qA a v b p.w).2.2=false then[]
  else kS (kH (if p.j=1/\(u5 (qA a v b p.w).1 (qA a v b p.w).2.1 p.w p.m).2=true then[v,zA v (qA a v b p.w).1,zA v (u5 (qA a v b p.w).1 (qA a v b p.w).2.1 p.w p.m).1,zA v (qA a v b p.w).2.1]
   else[v,zA v (qA a v b p.w).1,zA v (qA a v b p.w).2.1])):=by
 unfold jh;rw[kI h]
def zHj(a v b:Pt)(p:Pen):CX 377 [wk a,wk v,wk b,ws p] (.sl zk (jh a v b p)):=by
 refine zc func377 ?_
 have d:¬(kF p/\zm a/\zm v/\zm b/\¬v=a/\¬v=b)->LE nS (.sl zk (jh a v b p)):=λh=>by
  unfold jh;rw[Xe h];exact zD
 refine wg (zfi p)<|⟨λl=>d (λh=>l h.1),λl=>?_⟩;refine wg (qe a)<|⟨λo=>d (λh=>o h.2.1),λo=>?_⟩;refine wg (qe v)<|⟨λt=>d (λh=>t h.2.2.1),λt=>?_⟩;refine wg (qe b)<|⟨λu=>d (λh=>u h.2.2.2.1),λu=>?_⟩;refine⟨λx=>d (λh=>h.2.2.2.2.1 (qp.1 x)),λx=>?_⟩;refine⟨λy=>d (λh=>h.2.2.2.2.2 (qp.1 y)),λy=>?_⟩
 have g:kF p/\zm a/\zm v/\zm b/\¬v=a/\¬v=b:=
  ⟨Xa.1 l,Xa.1 o,Xa.1 t,Xa.1 u,λe=>x (qp.2 e),λe=>y (qp.2 e)⟩
 have i:=g.2.2.1;have z:=g.1.1;have e:=zwa g;refine⟨λA:p.j=3=>?_,λA:¬p.j=3=>?_⟩
 .exact wg (zuo v p.w)<|wg (zpP (vZ v p.w))<|z6 (e.trans (Xe A)).symm
 rw[Xc A]at e;refine wg (zD2 a v b p.w)<|⟨λk=>?_,λk=>?_⟩
 .have k:¬(qA a v b p.w).2.2=true:=k;rw[Xe (by simpa using k)]at e;rw[e];exact zD
 have k:(qA a v b p.w).2.2=true:=Xa.1 k;rw[Xc (by rw[k];decide)]at e;have oh:=zlV (a:=a) (v:=v) (b:=b) z;have G:=zkh z oh.1;have C:=zkh z oh.2;generalize (qA a v b p.w).1=n at*;generalize (qA a v b p.w).2.1=m at*;refine wd<|wg (zfm v n i.p45.s G.p45.s)<|⟨Pt,ptE,[v,zA v n],rfl,wb0 ?_⟩;refine wh ?_
 have tail:∀(q:LU),(¬(p.j=1/\(u5 n m p.w p.m).2=true))->q=[v,zA v n,zA v m]->LE (.sl zk (kS (kH q))) (.sl zk (jh a v b p)):=λq h D=>by
  rw[e,Xc h,D];exact .refl
 refine⟨λB:p.j=1=>?_,λB:¬p.j=1=>?_⟩
 .refine wg (p_tip n m p.w p.m) ?_;have ht:=zv9 n m p.w p.m;refine⟨λs1=>?_,λs1=>?_⟩
  .refine wg (zfm v (u5 n m p.w p.m).1 i.p45.s ht)<|⟨Pt,ptE,[zA v (u5 n m p.w p.m).1],rfl,wb0 ?_⟩;refine⟨[zA v (u5 n m p.w p.m).1],rfl,wb9 ?_⟩;refine wg (zfm v m i.p45.s C.p45.s)<|⟨Pt,ptE,[zA v m],rfl,wb0 ?_⟩;refine⟨[zA v m],rfl,wb22 ?_⟩;refine zb.see 11 _ (zbG [v,zA v n,zA v (u5 n m p.w p.m).1,zA v m] (by show((4:Nat):Int)<=_;decide)) rfl rfl rfl<|wg (zpP (kH [v,zA v n,zA v (u5 n m p.w p.m).1,zA v m])) ?_;rw[e,Xe ⟨B,s1⟩];exact .refl
  refine wg (zfm v m i.p45.s C.p45.s)<|⟨Pt,ptE,[zA v m],rfl,wb0 ?_⟩;refine⟨[zA v m],rfl,wb9 ?_⟩;exact zb.see 9 _ (zbG [v,zA v n,zA v m] (by show((3:Nat):Int)<=_;decide)) rfl rfl rfl<|wg (zpP (kH [v,zA v n,zA v m]))<|tail _ (λh=>s1 h.2) rfl
 refine wg (zfm v m i.p45.s C.p45.s)<|⟨Pt,ptE,[zA v m],rfl,wb0 ?_⟩;refine⟨[zA v m],rfl,wb9 ?_⟩;exact zb.see 8 _ (zbG [v,zA v n,zA v m] (by show((3:Nat):Int)<=_;decide)) rfl rfl rfl<|wg (zpP (kH [v,zA v n,zA v m]))<|tail _ (λh=>B h.1) rfl
def zHk(a v b:Pt)(p:Pen):CX 410 [wk a,wk v,wk b,ws p] (.sl zk (jh a v b p)):=by
 refine zc func410 ?_
 have d:¬(kF p/\zm a/\zm v/\zm b/\¬v=a/\¬v=b)->LE nS (.sl zk (jh a v b p)):=λh=>by
  unfold jh;rw[Xe h];exact zD
 refine wg (zdi p)<|⟨λl=>d (λh=>l h.1),λl=>?_⟩;refine wg (ki a)<|⟨λo=>d (λh=>o h.2.1),λo=>?_⟩;refine wg (ki v)<|⟨λq=>d (λh=>q h.2.2.1),λq=>?_⟩;refine wg (ki b)<|⟨λs=>d (λh=>s h.2.2.2.1),λs=>?_⟩;refine⟨λt=>d (λh=>h.2.2.2.2.1 (qp.1 t)),λt=>?_⟩;refine⟨λu=>d (λh=>h.2.2.2.2.2 (qp.1 u)),λu=>?_⟩
 have i:kF p/\zm a/\zm v/\zm b/\¬v=a/\¬v=b:=
  ⟨Xa.1 l,Xa.1 o,Xa.1 q,Xa.1 s,λe=>t (qp.2 e),λe=>u (qp.2 e)⟩
 have y:=i.2.2.1;have A:=i.1.1;have e:=zwa i
 have g:∀(r:LU),jh a v b p=kS r->((r.length:Int)=0->LE nS (.sl zk (jh a v b p)))/\(¬(r.length:Int)=0->jh a v b p=[r]):=λr D=>by
  refine⟨λh=>?_,λh=>?_⟩
  .have:r=[]:=Xq oM;rw[D,this];exact zD
  rw[D];unfold kS;rw[Xc (λk=>h (by rw[k];rfl))]
 refine⟨λB:p.j=3=>?_,λB:¬p.j=3=>?_⟩
 .refine wg (zun v p.w) λx=>?_;have f:=g _ (e.trans (Xe B));refine⟨λz=>f.1 z,λz=>?_⟩;refine⟨LU,zk,[vZ v p.w],rfl,wb0 ?_⟩;exact z6 (f.2 z).symm
 rw[Xc B]at e;refine wg (zD3 a v b p.w)<|⟨λk=>?_,λk=>?_⟩
 .have k:¬(qA a v b p.w).2.2=true:=k;rw[Xe (by simpa using k)]at e;rw[e];exact zD
 have k:(qA a v b p.w).2.2=true:=Xa.1 k;rw[Xc (by rw[k];decide)]at e;have oh:=zlV (a:=a) (v:=v) (b:=b) A;have G:=zkh A oh.1;have H:=zkh A oh.2;generalize (qA a v b p.w).1=n at*;generalize (qA a v b p.w).2.1=m at*;refine wg (r_tip n m p.w p.m) ?_;have ht:=zv9 n m p.w p.m;have cn:=zAD v n;rw[zlN y G]at cn;have cm:=zAD v m;rw[zlN y H]at cm;refine wd<|wg cn<|⟨Pt,ptE,[v,zA v n],rfl,wb0 ?_⟩;refine wh ?_
 have plain:(¬(p.j=1/\(u5 n m p.w p.m).2=true))->jh a v b p=kS (kH [v,zA v n,zA v m]):=λh=>by
  rw[e,Xc h]
 refine⟨λC:p.j=1=>?_,λC:¬p.j=1=>?_⟩
 .refine⟨λs1=>?_,λs1=>?_⟩
  .unfold zm at y;(iterate 2 refine wa ?_);refine⟨Pt,ptE,[zA v (u5 n m p.w p.m).1],rfl,wb0 ?_⟩;refine⟨[zA v (u5 n m p.w p.m).1],rfl,wb9 ?_⟩;refine wg cm<|⟨Pt,ptE,[zA v m],rfl,wb0 ?_⟩;refine⟨[zA v m],rfl,wb22 ?_⟩;refine zb.see 11 _ (zbF [v,zA v n,zA v (u5 n m p.w p.m).1,zA v m]) rfl rfl rfl λx=>?_;have f:=g (kH [v,zA v n,zA v (u5 n m p.w p.m).1,zA v m]) (by rw[e,Xe ⟨C,s1⟩]);refine⟨λz=>f.1 z,λz=>?_⟩;refine⟨LU,zk,[kH [v,zA v n,zA v (u5 n m p.w p.m).1,zA v m]],rfl,wb0 ?_⟩
   exact z6 (f.2 z).symm
  refine wg cm<|⟨Pt,ptE,[zA v m],rfl,wb0 ?_⟩;refine⟨[zA v m],rfl,wb9 ?_⟩;refine zb.see 9 _ (zbF [v,zA v n,zA v m]) rfl rfl rfl λx=>?_;have f:=g (kH [v,zA v n,zA v m]) (plain λh=>s1 h.2);refine⟨λz=>f.1 z,λz=>?_⟩;refine⟨LU,zk,[kH [v,zA v n,zA v m]],rfl,wb0 ?_⟩;exact z6 (f.2 z).symm
 refine wg cm<|⟨Pt,ptE,[zA v m],rfl,wb0 ?_⟩;refine⟨[zA v m],rfl,wb9 ?_⟩;refine zb.see 9 _ (zbF [v,zA v n,zA v m]) rfl rfl rfl λx=>?_;have f:=g (kH [v,zA v n,zA v m]) (plain λh=>C h.1);refine⟨λz=>f.1 z,λz=>?_⟩;refine⟨LU,zk,[kH [v,zA v n,zA v m]],rfl,wb0 ?_⟩;exact z6 (f.2 z).symm
def zlW{l:LZ}{i:Nat}{x:Pl}(h:l[i]?=some x):uH (l.take (i+1))=uH (l.take i)++if 3<=x.pts.length then[x.pts] else[]:=by
 unfold uH;rw[Xn,h]
 by_cases c:3<=x.pts.length
 .simp[c]
 simp[c]
def zsb(l:LZ):(uH l).length<=l.length:=by
 unfold uH;rw[Xv];exact Qc _ _
def zA8(l:LZ)(n:l.length<=4096)(k:∀q∈l,q.pts.length<=4096):CX 178 [.sl plE l] (.sl zk (uH l)):=by
 refine zc func178 λh=>?_;refine⟨Nat,λi=>⟨[(3,.own 0),(6,.sl plE l),(7,i64 l.length),(8,i64 i)],[(0,.arr 156 zk 1 (uH (l.take i)))],1,24,0⟩,λi=>i<=l.length,λi=>l.length-i,0,?_,?_,?_⟩
 .exact Xh _
 .exact zB [(0,none)]
 rintro i hi
 have b:=zsb (l.take i);rw[Xp]at b;refine⟨λg:(i:Int)<l.length=>?_,λg:¬(i:Int)<l.length=>?_⟩
 .refine wb λx(d:l[i]?=some x)=>?_;intro j;have e:=zlW d;refine⟨λc:(3:Int)<=x.pts.length=>?_,λc:¬(3:Int)<=x.pts.length=>?_⟩
  .refine wg ((zpN x.pts (k x (Xf d))).plain rfl)<|⟨LU,zk,[x.pts],rfl,wb0 ?_⟩;refine⟨[x.pts],rfl,wb14 ?_⟩;refine wa<|⟨i+1,oM,zt [3] ⟨aR ?_,tV⟩,oN⟩;rw[e,Xe oM]
  refine wa<|⟨i+1,oM,zt [0] ⟨aR ?_,tV⟩,oN⟩;rw[e,Xc oM,XE]
 exact z6 (by rw[Xi oM])
def zA9(l:LZ)(o:l.length<=4096)(k:∀q∈l,q.pts.length<=4096):CX 156 [.sl plE l] (.sl zk (uH l)):=by
 refine zc func156<|⟨LU,zk,[],rfl,wb2 ?_⟩;refine⟨Nat,λi=>⟨[(3,.own 0),(0,.sl plE l),(4,i64 i)],[(0,.arr 156 zk 1 (uH (l.take i)))],1,29,0⟩,λi=>i<=l.length,λi=>l.length-i,0,?_,?_,?_⟩
 .exact Xh _
 .exact zf [0]
 rintro i hi
 have b:=zsb (l.take i);rw[Xp]at b;intro h;refine⟨λg:(i:Int)<l.length=>?_,λg:¬(i:Int)<l.length=>?_⟩
 .refine wb λx(d:l[i]?=some x)=>?_;intro j;have e:=zlW d;refine⟨λc:(3:Int)<=x.pts.length=>?_,λc:¬(3:Int)<=x.pts.length=>?_⟩
  .refine wb λy n=>?_;have ey:y=x:=Xl ((show l[i]?=some y from n).symm.trans d);rw[ey];refine wg (zrW x.pts (k x (Xf d)))<|⟨LU,zk,[x.pts],rfl,wb0 ?_⟩;refine⟨[x.pts],rfl,wb14 ?_⟩;refine wa<|⟨i+1,oM,zt [2] ⟨aR ?_,tV⟩,oN⟩;rw[e,Xe oM]
  refine wa<|⟨i+1,oM,zt [0] ⟨aR ?_,tV⟩,oN⟩;rw[e,Xc oM,XE]
 exact z6 (by rw[Xi oM])
def zbj{a b c:Int}(g: -1048576<=a/\a<=1048576)(i: -1048576<=b/\b<=1048576)(j: -1048576<=c/\c<=1048576):
  (-4194304<=a-2*b+c/\a-2*b+c<=4194304)/\0<=(a-2*b+c)*(a-2*b+c)/\(a-2*b+c)*(a-2*b+c)<=17592186044416:=by
 have h: -4194304<=a-2*b+c/\a-2*b+c<=4194304:=oM;have d:=jG (A:=4194304) (B:=4194304) h h;have e:=jn (a-2*b+c);omega
def zai{a b c:Pt}(d:zm a)(e:zm b)(g:zm c):0<=yu a b c/\yu a b c<=35184372088832:=by
 have h:=zbj d.1 e.1 g.1;have i:=zbj d.2 e.2 g.2;unfold yu;omega
def zlX(a b c:Pt)(d:zm a)(e:zm b)(g:zm c):CX 422 [wk a,wk b,wk c] (i64 (yu a b c)):=by
 have h:=zbj d.1 e.1 g.1;have i:=zbj d.2 e.2 g.2;unfold zm at d e g;refine zc func422<|wc ?_;(iterate 9 refine wa ?_);exact .refl
def zus(a b c:Pt)(d:zm a)(e:zm b)(g:zm c):CX 484 [wk a,wk b,wk c] (i64 (yu a b c)):=by
 have h:=zbj d.1 e.1 g.1;have i:=zbj d.2 e.2 g.2;unfold zm at d e g;refine zc func484 ?_;(iterate 9 refine wa ?_);exact .refl
def zgr{need tol:Int}{i:Nat}(h:i<=64):yI need tol (65-i) i=if enough need tol i then((i:Int),0) else yI need tol (65-(i+1)) (i+1):=by
 rw[show 65-i=(64-i)+1 by omega,yI,show 65-(i+1)=64-i by omega]
def zgs{i:Nat}{tol:Int}(hi:i<=64)(ht:1<=tol/\tol<=256):
  (-65536<=16*(i:Int)*i/\16*(i:Int)*i<=65536)/\(-4194304<=16*(i:Int)*i*i/\16*(i:Int)*i*i<=4194304)/\
  (-268435456<=16*(i:Int)*i*i*i/\16*(i:Int)*i*i*i<=268435456)/\(-68719476736<=16*(i:Int)*i*i*i*tol/\16*(i:Int)*i*i*i*tol<=68719476736)/\
  (-17592186044416<=16*(i:Int)*i*i*i*tol*tol/\16*(i:Int)*i*i*i*tol*tol<=17592186044416):=by
 have d:=jG (A:=1024) (B:=64) (a:=16*(i:Int)) (b:=i) oM oM;have e:=jG (A:=65536) (B:=64) (a:=16*(i:Int)*i) (b:=i) oM oM;have g:=jG (A:=4194304) (B:=64) (a:=16*(i:Int)*i*i) (b:=i) oM oM;have h:=jG (A:=268435456) (B:=256) (a:=16*(i:Int)*i*i*i) (b:=tol) oM oM;have j:=jG (A:=68719476736) (B:=256) (a:=16*(i:Int)*i*i*i*tol) (b:=tol) oM oM;omega
def zjM(c:Int×Int):SV:=.tup [i64 c.1,i64 c.2]
def uz{c:Int×Int}{a b:Int}(h:c=(a,b)):LE (.tup [i64 a,i64 b]) (zjM c):=by subst h;exact .refl
def zsc(need tol:Int)(l:LU)(C:l.length<=4):CX 421 [i64 need,i64 tol,.sl ptE l] (zjM (k8 need tol l)):=by
 refine zc func421 ?_;have o:¬(1<=tol/\tol<=256)->k8 need tol l=(0,2):=λh=>by unfold k8;rw[Xe h]
 refine⟨λj=>uz (o (λh=>by have j:tol<1:=j;omega)),λj=>?_⟩;refine⟨λn=>uz (o (λh=>by have n:256<tol:=n;omega)),λn=>?_⟩;have ht:1<=tol/\tol<=256:=⟨by have j:¬tol<1:=j;omega,by have n:¬256<tol:=n;omega⟩;intro v;refine⟨Nat,λi=>⟨[(0,i64 need),(1,i64 tol),(17,.sl ptE l),(18,i64 l.length),(19,i64 i)],[],0,46,0⟩,λi=>i<=l.length/\∀p∈l.take i,zm p,λi=>l.length-i,0,?_,?_,?_⟩
 .exact⟨Xh _,λp d=>by cases d⟩
 .exact zB []
 rintro i ⟨z,q⟩
 refine⟨λg:(i:Int)<l.length=>?_,λg:¬(i:Int)<l.length=>?_⟩
 .refine wb λx(t:l[i]?=some x)=>?_;refine wg (qe x)<|⟨λb=>?_,λb=>?_⟩
  .refine uz ?_;unfold k8;rw[kI ht,Xe (λk=>b (k x (Xf t)))]
  have b:=Xa.1 b;refine wa<|⟨i+1,⟨oM,λp d=>?_⟩,zB [],oN⟩;rw[Xn,t]at d
  rcases Xu.1 d with d|d
  .exact q p d
  simp at d;rw[d];exact b
 have y:∀p∈l,zm p:=by rw[Xi oM]at q;exact q
 have e:k8 need tol l=yI need tol 64 1:=by unfold k8;rw[kI ht,kI y]
 refine⟨Nat,λi=>⟨[(0,i64 need),(1,i64 tol),(10,i64 i)],[],0,46,0⟩,λi=>1<=i/\i<=65/\yI need tol (65-i) i=yI need tol 64 1,λi=>65-i,1,?_,?_,?_⟩
 .exact⟨dC,dC,rfl⟩
 .exact zB []
 rintro i ⟨A,B,s⟩
 refine⟨λg:(i:Int)<=64=>?_,λg:¬(i:Int)<=64=>?_⟩
 .have ch:=zgs (i:=i) oM ht;have st:=zgr (need:=need) (tol:=tol) (i:=i) oM;rw[s]at st;(iterate 6 refine wa ?_);refine⟨λk:enough need tol i=>?_,λk:¬enough need tol i=>?_⟩
  .exact uz (by rw[e,st,Xe k])
  refine wa ?_;refine⟨i+1,⟨oM,oM,by rw[st,Xc k]⟩,zB [],oN⟩
 have u:i=65:=oM;subst u;exact uz (by rw[e,←s];rfl)
def zBa(tol:Int):CX 223 [i64 tol] (pr (zfV tol)):=by
 refine zc func223<|Br.mk (λh=>?_) (λh=>zd (λk=>h k.1));exact zC ⟨λk=>⟨h,k⟩,λk=>k.2⟩
def zpU(l:LU):CX 453 [.sl ptE l] (pr (∀p∈l,zm p)):=by
 refine zc func453<|⟨Nat,λi=>⟨[(0,.sl ptE l),(3,i64 i)],[],0,16,0⟩,λi=>i<=l.length/\∀p∈l.take i,zm p,λi=>l.length-i,0,?_,?_,?_⟩
 .exact⟨Xh _,λp d=>by cases d⟩
 .exact zB []
 rintro i ⟨n,e⟩
 intro j;refine⟨λg:(i:Int)<l.length=>?_,λg:¬(i:Int)<l.length=>?_⟩
 .refine wb λx(h:l[i]?=some x)=>?_;refine wg (ki x)<|⟨λb=>zd λk=>b (k x (Xf h)),λb=>?_⟩;have b:=Xa.1 b;refine wa<|⟨i+1,⟨oM,λp d=>?_⟩,zB [],oN⟩;rw[Xn,h]at d
  rcases Xu.1 d with d|d
  .exact e p d
  simp at d;rw[d];exact b
 rw[Xi oM]at e;exact zH e
def zEa(a b c:Pt)(tol:Int):CX 451 [.sl ptE [a,b,c],i64 tol,i64 1] (zjM (k8 (1*(yu a b c)) tol [a,b,c])):=by
 refine zc func451<|wg (zBa tol)<|⟨λj=>uz (by unfold k8;rw[Xe (show¬(1<=tol/\tol<=256) from j)]),λj=>?_⟩;have ht:1<=tol/\tol<=256:=Xa.1 j;refine wg (zpU [a,b,c])<|⟨λl=>uz (by unfold k8;rw[kI ht,Xe l]),λl=>?_⟩;have h:∀p∈[a,b,c],zm p:=Xa.1 l;have e:k8 (1*(yu a b c)) tol [a,b,c]=yI (1*(yu a b c)) tol 64 1:=by unfold k8;rw[kI ht,kI h]
 have o:=h a sI;have q:=h b sI;have s:=h c sI;have z:=zai o q s;refine wc<|Ob.mk (by show(0:Int)<=0/\(0:Int)<(3:Nat);decide) λx d=>?_
 cases (show some a=some x from d)
 refine Ob.mk (by show(0:Int)<=1/\(1:Int)<(3:Nat);decide) λx d=>?_
 cases (show some b=some x from d)
 refine Ob.mk (by show(0:Int)<=2/\(2:Int)<(3:Nat);decide) λx d=>?_
 cases (show some c=some x from d)
 refine wg (zus a b c o q s) λy=>?_;refine⟨λk=>absurd k (by show¬(3:Int)<(3:Nat);decide),λ_=>?_⟩;generalize hD:yu a b c=D at*;have rD:0<=D/\D<=35184372088832:=oM;refine⟨Nat,λi=>⟨[(1,i64 tol),(2,i64 1),(8,i64 D),(9,i64 i)],[],0,62,0⟩,λi=>1<=i/\i<=65/\yI (1*D) tol (65-i) i=yI (1*D) tol 64 1,λi=>65-i,1,?_,?_,?_⟩
 .exact⟨dC,dC,rfl⟩
 .exact zB []
 rintro i ⟨u,v,n⟩
 refine⟨λg:(i:Int)<=64=>?_,λg:¬(i:Int)<=64=>?_⟩
 .have ch:=zgs (i:=i) oM ht;have st:=zgr (need:=1*D) (tol:=tol) (i:=i) oM;rw[n]at st;(iterate 7 refine wa ?_);refine⟨λk:enough (1*D) tol i=>?_,λk:¬enough (1*D) tol i=>?_⟩
  .exact uz (by rw[e,st,Xe k])
  refine wa ?_;refine⟨i+1,⟨oM,oM,by rw[st,Xc k]⟩,zB [],oN⟩
 have t:i=65:=oM;subst t;exact uz (by rw[e,←n];rfl)
def zEb(a b c d:Pt)(tol:Int):CX 451 [.sl ptE [a,b,c,d],i64 tol,i64 9] (zjM (k8 (9*(max (yu a b c) (yu b c d))) tol [a,b,c,d])):=by
 refine zc func451<|wg (zBa tol)<|⟨λo=>uz (by unfold k8;rw[Xe (show¬(1<=tol/\tol<=256) from o)]),λo=>?_⟩;have ht:1<=tol/\tol<=256:=Xa.1 o;refine wg (zpU [a,b,c,d])<|⟨λq=>uz (by unfold k8;rw[kI ht,Xe q]),λq=>?_⟩;have j:∀p∈[a,b,c,d],zm p:=Xa.1 q;have e:k8 (9*(max (yu a b c) (yu b c d))) tol [a,b,c,d]=yI (9*(max (yu a b c) (yu b c d))) tol 64 1:=by unfold k8;rw[kI ht,kI j]
 have t:=j a sI;have l:=j b sI;have n:=j c sI;have u:=j d sI;have B:=zai t l n;have C:=zai l n u;refine wc<|Ob.mk (by show(0:Int)<=0/\(0:Int)<(4:Nat);decide) λx h=>?_
 cases (show some a=some x from h)
 refine Ob.mk (by show(0:Int)<=1/\(1:Int)<(4:Nat);decide) λx h=>?_
 cases (show some b=some x from h)
 refine Ob.mk (by show(0:Int)<=2/\(2:Int)<(4:Nat);decide) λx h=>?_
 cases (show some c=some x from h)
 refine wg (zus a b c t l n) λA=>?_;refine⟨λ_=>?_,λk=>absurd (show(3:Int)<(4:Nat) by decide) k⟩;refine wc<|Ob.mk (by show(0:Int)<=1/\(1:Int)<(4:Nat);decide) λx h=>?_
 cases (show some b=some x from h)
 refine Ob.mk (by show(0:Int)<=2/\(2:Int)<(4:Nat);decide) λx h=>?_
 cases (show some c=some x from h)
 refine Ob.mk (by show(0:Int)<=3/\(3:Int)<(4:Nat);decide) λx h=>?_
 cases (show some d=some x from h)
 refine wg (zus b c d l n u) ?_;generalize hD:max (yu a b c) (yu b c d)=D at*;have rD:0<=D/\D<=35184372088832:=oM;refine⟨Nat,λi=>⟨[(1,i64 tol),(2,i64 9),(8,i64 D),(9,i64 i)],[],0,62,0⟩,λi=>1<=i/\i<=65/\yI (9*D) tol (65-i) i=yI (9*D) tol 64 1,λi=>65-i,1,?_,?_,?_⟩
 .exact⟨dC,dC,rfl⟩
 .exact jv [] ⟨rfl,rfl,iR hD,rfl,tV⟩ trivial
 rintro i ⟨y,z,s⟩
 refine⟨λg:(i:Int)<=64=>?_,λg:¬(i:Int)<=64=>?_⟩
 .have ch:=zgs (i:=i) oM ht;have st:=zgr (need:=9*D) (tol:=tol) (i:=i) oM;rw[s]at st;(iterate 7 refine wa ?_);refine⟨λk:enough (9*D) tol i=>?_,λk:¬enough (9*D) tol i=>?_⟩
  .exact uz (by rw[e,st,Xe k])
  refine wa ?_;refine⟨i+1,⟨oM,oM,by rw[st,Xc k]⟩,zB [],oN⟩
 have v:i=65:=oM;subst v;exact uz (by rw[e,←s];rfl)
def zx3(a b c:Pt)(tol:Int)(d:zm a)(e:zm b)(g:zm c):CX 361 [.agg (ptE a++ptE b++ptE c),i64 tol] (zjM (j9 a b c tol)):=by
 refine zc func361<|zgQ.data<|wc ?_;have h:=zai d e g;refine wg (zlX a b c d e g)<|⟨Pt,ptE,[a,b,c],rfl,wb13 ?_⟩;exact wg (zsc (yu a b c) tol [a,b,c] (by show 3<=4;decide))<|.refl
def zx4(a b c:Pt)(tol:Int):CX 402 [.agg (ptE a++ptE b++ptE c),i64 tol] (zjM (j9 a b c tol)):=by
 refine zc func402<|zgQ.data<|⟨Pt,ptE,[a,b,c],rfl,wb0 ?_⟩;have d:=zEa a b c tol;rw[Yh]at d;exact zb.see 0 _ d rfl rfl rfl<|.refl
def zx5(a b c d:Pt)(tol:Int)(h:zm a)(e:zm b)(g:zm c)(i:zm d):CX 366 [.agg (ptE a++ptE b++ptE c++ptE d),i64 tol] (zjM (ya a b c d tol)):=by
 refine zc func366<|zgQ.data<|wc ?_;have j:=zai h e g;refine wg (zlX a b c h e g) ?_;have k:=zai e g i;refine wg (zlX b c d e g i)<|Ar.fit (by show-9223372036854775808<=9*max (yu a b c) (yu b c d)/\9*max (yu a b c) (yu b c d)<=9223372036854775807;omega)<|⟨Pt,ptE,[a,b,c,d],rfl,wb13 ?_⟩;exact wg (zsc (9*max (yu a b c) (yu b c d)) tol [a,b,c,d] (by show 4<=4;decide))<|.refl
def zx6(a b c d:Pt)(tol:Int):CX 404 [.agg (ptE a++ptE b++ptE c++ptE d),i64 tol] (zjM (ya a b c d tol)):=by
 refine zc func404<|zgQ.data<|⟨Pt,ptE,[a,b,c,d],rfl,wb0 ?_⟩;have e:=zEb a b c d tol;exact zb.see 0 _ e rfl rfl rfl<|.refl
def zBb(a b:Int)(h: -8796093022208<=a/\a<=8796093022208)(i:0<b/\b<=1048576):CX 426 [i64 a,i64 b] (i64 (zen a b)):=by
 have td:=tdm (m:=2*a+b) (n:=2*b) oM;have tr:=zlc (m:=2*a+b) (n:=2*b) oM ⟨oM,oM⟩;refine zc func426 ?_;(iterate 3 refine wa ?_);have e:zen a b=(2*a+b)/(2*b):=rfl;have g:=tr.2 oM;have d:=tr.1;clear tr;refine Dv.any (by omega:2*b≠0)<|Ar.fit d<|Dv.any (by omega:2*b≠0)<|⟨λk=>?_,λk=>?_⟩
 .have k:(2*a+b).tmod (2*b)<0:=k;exact Ar.fit (by unfold R64 at d;omega)<|ze (by rw[e];omega)
 have k:¬(2*a+b).tmod (2*b)<0:=k;exact ze (by rw[e];omega)
def zki(a b:Int)(i: -8796093022208<=a/\a<=8796093022208)(j:0<b/\b<=1048576):CX 454 [i64 a,i64 b] (i64 (zen a b)):=by
 have td:=tdm (m:=2*a+b) (n:=2*b) oM;have tr:=zlc (m:=2*a+b) (n:=2*b) oM ⟨oM,oM⟩;refine zc func454 ?_;(iterate 3 refine wa ?_);have e:zen a b=(2*a+b)/(2*b):=rfl;have h:=tr.2 oM;have g:=tr.1;clear tr;refine Dv.any (by omega:2*b≠0)<|Ar.fit g ?_;(iterate 2 refine wa ?_);refine⟨λk:2*a+b<0=>?_,λk:¬2*a+b<0=>?_⟩
 ·(iterate 3 refine wa ?_);refine Dv.any (by omega:2*b≠0)<|⟨λd=>?_,λd=>?_⟩
  .have d:¬(2*a+b).tmod (2*b)=0:=d;exact Ar.fit (by unfold R64 at g;omega)<|ze (by rw[e];omega)
  have d:(2*a+b).tmod (2*b)=0:=Xa.1 d;exact ze (by rw[e];omega)
 exact ze (by rw[e];omega)
def zwb(i n:Int):CX 452 [i64 i,i64 n] (pr (1<=n/\n<=64/\0<=i/\i<=n)):=by
 refine zc func452<|Br.mk (λb=>?_) (λb=>zd (λk=>b k.1));refine⟨λd=>?_,λd=>zd (λk=>d k.2.1)⟩;refine⟨λe=>?_,λe=>zd (λk=>e k.2.2.1)⟩;exact zC ⟨λg=>⟨b,d,e,g⟩,λh=>h.2.2.2⟩
def zBc(l:LU)(i n:Int)(y:l.length<=4):CX 424 [.sl ptE l,i64 i,i64 n] (pr (zrU l i n)):=by
 refine zc func424 λu=>?_;refine⟨Nat,λk=>⟨[(1,i64 i),(2,i64 n),(9,.sl ptE l),(10,i64 l.length),(11,i64 k)],[],0,34,0⟩,λk=>k<=l.length/\∀p∈l.take k,zm p,λk=>l.length-k,0,?_,?_,?_⟩
 .exact⟨Xh _,λp d=>by cases d⟩
 .exact zB []
 rintro k ⟨j,e⟩
 refine⟨λg:(k:Int)<l.length=>?_,λg:¬(k:Int)<l.length=>?_⟩
 .refine wb λx(s:l[k]?=some x)=>?_;refine wg (qe x)<|⟨λb=>zd λq=>b (q.1 x (Xf s)),λb=>?_⟩;have b:=Xa.1 b;refine wa<|⟨k+1,⟨oM,λp d=>?_⟩,zB [],oN⟩;rw[Xn,s]at d
  rcases Xu.1 d with d|d
  .exact e p d
  simp at d;rw[d];exact b
 have v:∀p∈l,zm p:=by rw[Xi oM]at e;exact e
 refine⟨λj=>?_,λj=>zd (λk=>j k.2.1)⟩;refine⟨λe=>?_,λe=>zd (λk=>e k.2.2.1)⟩;refine⟨λo=>?_,λo=>zd (λk=>o k.2.2.2.1)⟩;exact zC ⟨λt=>⟨v,j,e,o,t⟩,λh=>h.2.2.2.2⟩
def zpV{k i n x y z:Int}(q:0<=k/\k<=64)(hi:0<=i/\i<=64)(s:1<=n/\n<=64)(t: -1048576<=x/\x<=1048576)(u: -1048576<=y/\y<=1048576)(v: -1048576<=z/\z<=1048576):
  (-4096<=k*k/\k*k<=4096)/\(-4294967296<=k*k*x/\k*k*x<=4294967296)/\(-8192<=2*i*k/\2*i*k<=8192)/\(-8589934592<=2*i*k*y/\2*i*k*y<=8589934592)/\
  (-4096<=i*i/\i*i<=4096)/\(-4294967296<=i*i*z/\i*i*z<=4294967296)/\(0<n*n/\n*n<=4096):=by
 have d:=jG (A:=64) (B:=64) (a:=k) (b:=k) oM oM;have e:=jG (A:=4096) (B:=1048576) (a:=k*k) (b:=x) oM oM;have g:=jG (A:=128) (B:=64) (a:=2*i) (b:=k) oM oM;have h:=jG (A:=8192) (B:=1048576) (a:=2*i*k) (b:=y) oM oM;have j:=jG (A:=64) (B:=64) (a:=i) (b:=i) oM oM;have l:=jG (A:=4096) (B:=1048576) (a:=i*i) (b:=z) oM oM;have o:=jG (A:=64) (B:=64) (a:=n) (b:=n) oM oM;have p:=Q3 (show 0<n by omega) (show 0<n by omega);omega
def zpW{k i n x y z u:Int}(t:0<=k/\k<=64)(hi:0<=i/\i<=64)(v:1<=n/\n<=64)(D: -1048576<=x/\x<=1048576)(G: -1048576<=y/\y<=1048576)(H: -1048576<=z/\z<=1048576)(C: -1048576<=u/\u<=1048576):
  ((-4096<=k*k/\k*k<=4096)/\(-262144<=k*k*k/\k*k*k<=262144)/\(-274877906944<=k*k*k*x/\k*k*k*x<=274877906944))/\
  ((-12288<=3*i*k/\3*i*k<=12288)/\(-786432<=3*i*k*k/\3*i*k*k<=786432)/\(-824633720832<=3*i*k*k*y/\3*i*k*k*y<=824633720832))/\
  ((-12288<=3*i*i/\3*i*i<=12288)/\(-786432<=3*i*i*k/\3*i*i*k<=786432)/\(-824633720832<=3*i*i*k*z/\3*i*i*k*z<=824633720832))/\
  ((-4096<=i*i/\i*i<=4096)/\(-262144<=i*i*i/\i*i*i<=262144)/\(-274877906944<=i*i*i*u/\i*i*i*u<=274877906944))/\((0<n*n/\n*n<=4096)/\(0<n*n*n/\n*n*n<=262144)):=by
 have e:=jG (A:=64) (B:=64) (a:=k) (b:=k) oM oM;have g:=jG (A:=4096) (B:=64) (a:=k*k) (b:=k) oM oM;have h:=jG (A:=262144) (B:=1048576) (a:=k*k*k) (b:=x) oM oM;have j:=jG (A:=192) (B:=64) (a:=3*i) (b:=k) oM oM;have l:=jG (A:=12288) (B:=64) (a:=3*i*k) (b:=k) oM oM;have o:=jG (A:=786432) (B:=1048576) (a:=3*i*k*k) (b:=y) oM oM;have p:=jG (A:=192) (B:=64) (a:=3*i) (b:=i) oM oM;have q:=jG (A:=12288) (B:=64) (a:=3*i*i) (b:=k) oM oM
 have s:=jG (A:=786432) (B:=1048576) (a:=3*i*i*k) (b:=z) oM oM;have J:=jG (A:=64) (B:=64) (a:=i) (b:=i) oM oM;have K:=jG (A:=4096) (B:=64) (a:=i*i) (b:=i) oM oM;have L:=jG (A:=262144) (B:=1048576) (a:=i*i*i) (b:=u) oM oM;have N:=jG (A:=64) (B:=64) (a:=n) (b:=n) oM oM;have O:=jG (A:=4096) (B:=64) (a:=n*n) (b:=n) oM oM;have d:=Q3 (show 0<n by omega) (show 0<n by omega);have R:=Q3 d (show 0<n by omega);omega
def zn5(x y z k i n:Int)(b:0<=k/\k<=64)(hi:0<=i/\i<=64)(d:1<=n/\n<=64)(e: -1048576<=x/\x<=1048576)(g: -1048576<=y/\y<=1048576)(h: -1048576<=z/\z<=1048576):
  CX 425 [i64 x,i64 y,i64 z,.ptr [i64 k],.ptr [i64 i],.ptr [i64 n]] (i64 (zen (k*k*x+2*i*k*y+i*i*z) (n*n))):=by
 have t:=zpV b hi d e g h;refine zc func425 ?_;(iterate 10 refine wa ?_);exact wg (zBb (k*k*x+2*i*k*y+i*i*z) (n*n) oM oM)<|.refl
def zn6{a b c:Pt}{i n:Int}(h:zrU [a,b,c] i n):y6 a b c i n=⟨q1 i n a.x b.x c.x,q1 i n a.y b.y c.y⟩:=by
 unfold y6;rw[kI h]
def zBd(a b c:Pt)(i n:Int):CX 365 [.agg (ptE a++ptE b++ptE c),i64 i,i64 n] (wk (y6 a b c i n)):=by
 refine zc func365<|zgQ.data<|wc<|⟨Pt,ptE,[a,b,c],rfl,wb13 ?_⟩;refine wg (zBc [a,b,c] i n (by show 3<=4;decide))<|⟨λh=>?_,λh=>?_⟩
 .refine uj (show SV.agg (ptE zp)=_ from ?_);unfold y6;rw[Xe h]
 have h:=Xa.1 h;obtain⟨d,o,q,k,l⟩:=h;have e:=d a sI;have g:=d b sI;have j:=d c sI;exact wa<|wc<|wg (zn5 a.x b.x c.x (n-i) i n oM oM oM e.1 g.1 j.1)<|wg (zn5 a.y b.y c.y (n-i) i n oM oM oM e.2 g.2 j.2)<|uj (Xg (λp=>SV.agg (ptE p)) (zn6 ⟨d,o,q,k,l⟩).symm)
def zBe(a b c:Pt)(i n:Int):CX 403 [.agg (ptE a++ptE b++ptE c),i64 i,i64 n] (wk (y6 a b c i n)):=by
 refine zc func403<|zgQ.data ?_
 have d:¬zrU [a,b,c] i n->LE (wk zp) (wk (y6 a b c i n)):=λh=>by
  refine uj ?_;unfold y6;rw[Xe h]
 refine wg (zwb i n)<|⟨λh=>d λk=>h ⟨k.2.1,k.2.2.1,k.2.2.2.1,k.2.2.2.2⟩,λh=>?_⟩;refine⟨Pt,ptE,[a,b,c],rfl,wb0 ?_⟩;refine zb.see 1 _ (zpU [a,b,c]) rfl rfl rfl<|Br.mk (λg=>d λk=>g k.1) (λg=>?_);obtain⟨t,u,q,s⟩:=Xa.1 h;have e:=Xa.1 g;have j:=e a sI;have l:=e b sI;have o:=e c sI;have v:=zpV (k:=n-i) (i:=i) (n:=n) oM oM oM j.1 l.1 o.1;have z:=zpV (k:=n-i) (i:=i) (n:=n) oM oM oM j.2 l.2 o.2;refine wa ?_
 (iterate 19 refine wa ?_);exact wg (zki ((n-i)*(n-i)*a.x+2*i*(n-i)*b.x+i*i*c.x) (n*n) oM oM)<|wa<|wg (zki ((n-i)*(n-i)*a.y+2*i*(n-i)*b.y+i*i*c.y) (n*n) oM oM)<|uj (Xg (λp=>SV.agg (ptE p)) (zn6 ⟨e,t,u,q,s⟩).symm)
def zn7(x y z u k i n:Int)(b:0<=k/\k<=64)(hi:0<=i/\i<=64)(d:1<=n/\n<=64)(g: -1048576<=x/\x<=1048576)(h: -1048576<=y/\y<=1048576)(j: -1048576<=z/\z<=1048576)(e: -1048576<=u/\u<=1048576):
  CX 427 [i64 x,i64 y,i64 z,i64 u,.ptr [i64 k],.ptr [i64 i],.ptr [i64 n]] (i64 (zen (k*k*k*x+3*i*k*k*y+3*i*i*k*z+i*i*i*u) (n*n*n))):=by
 have t:=zpW b hi d g h j e;refine zc func427 ?_;(iterate 19 refine wa ?_);exact wg (zBb (k*k*k*x+3*i*k*k*y+3*i*i*k*z+i*i*i*u) (n*n*n) oM oM)<|.refl
def zn8{a b c d:Pt}{i n:Int}(h:zrU [a,b,c,d] i n):y7 a b c d i n=⟨c1 i n a.x b.x c.x d.x,c1 i n a.y b.y c.y d.y⟩:=by
 unfold y7;rw[kI h]
def zBf(a b c d:Pt)(i n:Int):CX 368 [.agg (ptE a++ptE b++ptE c++ptE d),i64 i,i64 n] (wk (y7 a b c d i n)):=by
 refine zc func368<|zgQ.data<|wc<|⟨Pt,ptE,[a,b,c,d],rfl,wb13 ?_⟩;refine wg (zBc [a,b,c,d] i n (by show 4<=4;decide))<|⟨λh=>?_,λh=>?_⟩
 .refine uj (show SV.agg (ptE zp)=_ from ?_);unfold y7;rw[Xe h]
 have h:=Xa.1 h;obtain⟨e,s,t,o,q⟩:=h;have g:=e a sI;have j:=e b sI;have k:=e c sI;have l:=e d sI;exact wa<|wc<|wg (zn7 a.x b.x c.x d.x (n-i) i n oM oM oM g.1 j.1 k.1 l.1)<|wg (zn7 a.y b.y c.y d.y (n-i) i n oM oM oM g.2 j.2 k.2 l.2)<|uj (Xg (λp=>SV.agg (ptE p)) (zn8 ⟨e,s,t,o,q⟩).symm)
def zBg(a b c d:Pt)(i n:Int):CX 405 [.agg (ptE a++ptE b++ptE c++ptE d),i64 i,i64 n] (wk (y7 a b c d i n)):=by
 refine zc func405<|zgQ.data ?_
 have e:¬zrU [a,b,c,d] i n->LE (wk zp) (wk (y7 a b c d i n)):=λh=>by
  refine uj ?_;unfold y7;rw[Xe h]
 refine wg (zwb i n)<|⟨λh=>e λk=>h ⟨k.2.1,k.2.2.1,k.2.2.2.1,k.2.2.2.2⟩,λh=>?_⟩;refine⟨Pt,ptE,[a,b,c,d],rfl,wb0 ?_⟩;refine zb.see 1 _ (zpU [a,b,c,d]) rfl rfl rfl<|Br.mk (λj=>e λk=>j k.1) (λj=>?_);obtain⟨v,z,t,u⟩:=Xa.1 h;have g:=Xa.1 j;have l:=g a sI;have o:=g b sI;have q:=g c sI;have s:=g d sI;have A:=zpW (k:=n-i) (i:=i) (n:=n) oM oM oM l.1 o.1 q.1 s.1
 have B:=zpW (k:=n-i) (i:=i) (n:=n) oM oM oM l.2 o.2 q.2 s.2;(iterate 32 refine wa ?_)
 (iterate 5 refine wa ?_);refine wg (zki ((n-i)*(n-i)*(n-i)*a.x+3*i*(n-i)*(n-i)*b.x+3*i*i*(n-i)*c.x+i*i*i*d.x) (n*n*n) oM oM) ?_;(iterate 2 refine wa ?_);exact wg (zki ((n-i)*(n-i)*(n-i)*a.y+3*i*(n-i)*(n-i)*b.y+3*i*i*(n-i)*c.y+i*i*i*d.y) (n*n*n) oM oM)<|uj (Xg (λp=>SV.agg (ptE p)) (zn8 ⟨g,v,z,t,u⟩).symm)
def zhx(prev:SV->SV)(lm:LJ):SV->SV
 |.loc k off=>(match lm k with
  |some (.box _ b)=>.dptr ((b.map prev).drop off)
  |_=>.junk)
 |.own k=>(match lm k with
  |some (.arr _ enc _ xs)=>.sl enc xs
  |_=>.junk)
 |.fn f b=>.dfn f (frzs prev lm b)
 |.agg b=>.agg (frzs prev lm b)
 |.ifc t s=>.ifc t (zhx prev lm s)
 |.val v=>.val v
 |.pr p i=>.pr p i
 |.sl enc xs=>.sl enc xs
 |.dptr b=>.dptr b
 |.dfn f b=>.dfn f b
 |.bm f b=>.bm f b
 |.op v=>.op v
 |.nils=>.nils
 |.anyb=>.anyb
 |.full enc xs=>.full enc xs
 |_=>.junk
 where
 frzs (prev:SV->SV) (lm:LJ):LR->LR
  |[]=>[]
  |c::b=>zhx prev lm c::frzs prev lm b
def frz(lm:LJ):Nat->SV->SV
 |0=>zhx (λ_=>.junk) lm
 |n+1=>zhx (frz lm n) lm
def zgt(lm:LJ)(n:Nat)(s:SV):SV:=
 match s with
 |.tup b=>.tup (b.map (frz lm n))
 |s=>frz lm n s
def zlY(prev:SV->SV)(lm:LJ):∀b,zhx.frzs prev lm b=b.map (zhx prev lm)
 |[]=>rfl
 |c::b=>by rw[zhx.frzs,zlY prev lm b];rfl
section
variable{Keep:LI}{M:LT}{Z:zh}{w:World}{lm:LJ}
def zBh(C:∀k m,lm k=some m->(k,m)∈M)(K:zI Keep M Z w){prev:SV->SV}(V:∀{s:SV} {v:Value},G (λb=>Keep b∨Own M Z b) (Own M Z) Z w s v->D Keep w (prev s) v):
  ∀(s:SV) {v:Value},G (λb=>Keep b∨Own M Z b) (Own M Z) Z w s v->D Keep w (zhx prev lm s) v:=by
 have g:∀b,Keep b->Keep b∨Own M Z b:=λb h=>.inl h
 intro s
 induction s using SV.rec (motive_2:=λn=>∀{vs:LA},Gs (λb=>Keep b∨Own M Z b) (Own M Z) Z w n vs->∀(j:Nat) (s:SV) (v:Value),(zhx.frzs prev lm n)[j]?=some s->vs[j]?=some v->D Keep w s v) with
 |val v=>intro u e;rw[e.val_inv];exact .val v
 |pr p i=>intro u e;rw[e.pr_inv];exact .pr p i
 |sl enc xs=>intro u e;exact e.sl_inv.less g
 |nils=>intro u e;obtain⟨a,rfl⟩:=e.nils_inv;exact .nils a
 |anyb=>intro u e;obtain⟨b,rfl⟩:=e.anyb_inv;exact .anyb b
 |full enc xs=>intro u e;obtain⟨a,rfl,S⟩:=e.full_inv;exact .full enc xs a (S.less g)
 |dptr n _=>intro u e;cases e with|d _ _ h=>exact h.less g
 |dfn f n _=>intro u e;cases e with|d _ _ h=>exact h.less g
 |bm f n _=>intro u e;cases e with|d _ _ h=>exact h.less g
 |op v=>intro u e;cases e with|d _ _ h=>exact h.less g
 |ifc t s H=>
  intro u e;obtain⟨v,rfl,y⟩:=e.ifc_inv;exact .ifc t _ v (H y)
 |agg n H=>
  intro u e;obtain⟨vs,rfl,q⟩:=e.agg_inv;exact .agg _ vs (by rw[zlY,Xv];exact q.1) (H q)
 |fn f n H=>
  intro u e;obtain⟨vs,rfl,q⟩:=e.fn_inv;exact .dfn f _ vs (by rw[zlY,Xv];exact q.1) (H q)
 |loc k off=>
  intro u e;obtain⟨b,x,rfl⟩:=e.loc_inv;simp only[zhx]
  split
  .rename_i T n B;have l:=C k _ B;obtain⟨X,vs,A,N,Y,O,R⟩:=K.rel k _ l;rw[x]at A;cases A
   have z:=K.old b ⟨k,_,_,l,x,rfl⟩;refine .dptr _ b off (λj=>(vs[off+j]?).getD undef) z.1 z.2 (λj U=>?_) (λj s L=>?_)
   .have o:off+j<vs.length:=by simp at U;omega
    rw[zcq N];simp only[Xb o,KU];exact⟨tV,O _ (X5 o)⟩
   rw[KK,XD]at L
   cases J:n[off+j]? with
   |none=>simp[J]at L
   |some c=>
    simp[J]at L;subst L;have o:off+j<vs.length:=by have:=(Xd.1 J).1;omega
    rw[Xb o,KU];exact V (R _ c _ J (Xb o))
  exact .junk _
 |own k=>
  intro u e;obtain⟨x,A⟩:=e.own_inv;simp only[zhx]
  split
  .rename_i T α enc sz xs B;have l:=C k _ B;exact zgT K l (λb z=>.inl z) (λv b y z B=>(K.old b ⟨k,_,v,l,y,z⟩).2 B) x
  exact .junk _
 |ptr n _=>intro u _;exact .junk _
 |eloc _ _ _ _=>intro u _;exact .junk _
 |win _ _ _ _=>intro u _;exact .junk _
 |tup n _=>intro u _;exact .junk _
 |junk=>intro u _;exact .junk _
 |nil=>rename_i vs _ j s v h _;simp[zhx.frzs]at h
 |cons c n ihc ihcs=>
  rename_i vs e j s v h y;obtain⟨v0,W,rfl,A,N⟩:=e.cons_inv
  cases j with
  |zero=>simp[zhx.frzs]at h y;subst h;subst y;exact ihc A
  |succ j=>exact ihcs N j s v (by simpa[zhx.frzs] using h) (by simpa using y)
def zlZ(d:∀k m,lm k=some m->(k,m)∈M)(e:zI Keep M Z w):∀(n:Nat) {s:SV} {v:Value},G (λb=>Keep b∨Own M Z b) (Own M Z) Z w s v->D Keep w (frz lm n s) v
 |0,s,_,h=>zBh d e (λ_=>.junk _) s h
 |n+1,s,_,h=>zBh d e (λh=>zlZ d e n h) s h
end
section
def endF(n:Nat)(I:LS)(rs:List ResultVar)(r:SV)(e:Ex)(O:St):Prop:=
 match e with
 |.exit _=>False
 |_=>zaw O I rs λs=>LE (zgt (zO O.M) n s) r
variable{P:Program}{I:LS}{f:FuncId}{fn:Func}{c:Code}{r:SV}
def yJ(n:Nat)(hT:TOK P I)(H:P.follows .mixedOrders=true){args:LR}(C:P.funcs[f]?=some fn)(i:fn.body=some c)(u:(fn.name== "runtime.NumGoroutine")=false) (l:Nat.ble args.length fn.ntmps=true)
  (h:js P I c ⟨qG 0 args,[],0,fn.ntmps,0⟩ (endF n I fn.results.toList r)):kL P f args [] r []:=by
 refine vj hT H C i u l h (λe O h=>⟨O,.refl,h⟩) (λe O o B=>?_) (λid O o=>o)
 have o:zaw O I fn.results.toList λs=>LE (zgt (zO O.M) n s) r:=by
  cases e with
  |exit id=>exact absurd rfl (B id)
  |normal=>exact o
  |ret=>exact o
 obtain⟨s,l,A⟩:=jj hT o;refine⟨s,A,λ{E Z a w v} q hW _ y=>⟨Z,?_,?_,?_⟩⟩
 .have g:=q.stp;exact⟨g.os,g.tape,g.output,g.size,λb i u=>g.block b i λh=>u ((hW b).1 h),λb i=>absurd i zK,g.rho⟩
 .exact(qu q.mem.kp λ_ _ h=>q.mem.glc h)
 have x:∀{s:SV} {v:Value},G (λb=>E.Keep b∨Own O.M Z b) (Own O.M Z) Z w s v->D (λb=>E.Keep b∨Own [] Z b) w (frz (zO O.M) n s) v:=λh=>
  (zlZ (λk m h=>zu h) q.mem n h).less λb i=>i.resolve_right zK
 refine l _ _ _ _ _ ?_;unfold zgt
 split
 .rename_i z;obtain⟨vs,rfl,p⟩:=y.tup_inv;refine .tup _ vs (by rw[Xv];exact p.1) λj s v g J=>?_
  rw[XD]at g
  cases t:z[j]? with
  |none=>simp[t]at g
  |some c=>
   simp[t]at g;subst g;exact .d _ _ (x (p.2 j c v t J))
 exact .d _ _ (x y)
def zjN(n:Nat)(hT:TOK P I)(H:P.follows .mixedOrders=true){args:LR}{M:LT}(C:P.funcs[f]?=some fn)(i:fn.body=some c)(u:(fn.name== "runtime.NumGoroutine")=false) (l:Nat.ble args.length fn.ntmps=true)
  (h:js P I c ⟨qG 0 args,M,M.length,fn.ntmps,M.length⟩ (endF n I fn.results.toList r)):kL P f args M r []:=by
 refine vj hT H C i u l h (λe O h=>⟨O,.refl,h⟩) (λe O o B=>?_) (λid O o=>o)
 have o:zaw O I fn.results.toList λs=>LE (zgt (zO O.M) n s) r:=by
  cases e with
  |exit id=>exact absurd rfl (B id)
  |normal=>exact o
  |ret=>exact o
 obtain⟨s,l,A⟩:=jj hT o;refine⟨s,A,λ{E Z a w v} q hW _ y=>⟨Z,?_,?_,?_⟩⟩
 .have g:=q.stp;exact⟨g.os,g.tape,g.output,g.size,λb i u=>g.block b i λh=>u ((hW b).1 h),λb i=>absurd i zK,g.rho⟩
 .exact(qu q.mem.kp λ_ _ h=>q.mem.glc h)
 have x:∀{s:SV} {v:Value},G (λb=>E.Keep b∨Own O.M Z b) (Own O.M Z) Z w s v->D (λb=>E.Keep b∨Own [] Z b) w (frz (zO O.M) n s) v:=λh=>
  (zlZ (λk m h=>zu h) q.mem n h).less λb i=>i.resolve_right zK
 refine l _ _ _ _ _ ?_;unfold zgt
 split
 .rename_i z;obtain⟨vs,rfl,p⟩:=y.tup_inv;refine .tup _ vs (by rw[Xv];exact p.1) λj s v g J=>?_
  rw[XD]at g
  cases t:z[j]? with
  |none=>simp[t]at g
  |some c=>
   simp[t]at g;subst g;exact .d _ _ (x (p.2 j c v t J))
 exact .d _ _ (x y)
structure yo (F:Fence):Prop where
 fn:∀f,F.fn f
 depth:F.depth=none
 alive:F.alive=false
def yo.wide:yo Fence.wide:=⟨λ_=>trivial,rfl,rfl⟩
def yo.inRound{F:Fence}(h:yo F)(l:Nat):yo (F.inRound l):=⟨h.fn,h.depth,h.alive⟩
def yo.room{F:Fence}(h:yo F)(n:Nat):F.room n:=λd b=>by rw[h.depth]at b;cases b
def yo.fenced{F:Fence}(h:yo F)(P:Program)(m:Machine):m.fenced P F:=by
 intro g _;exact⟨λb=>(by rw[h.alive]at b;cases b),.inl (h.fn _),λf _=>h.fn f,h.room _⟩
variable{F:Fence}{m:Machine}{m':Machine}
def yo.steps(h:yo F)(b:Steps P m m'):StepsIn (Machine.fenced P F) P m m':=
 (StepsIn.of_steps b).mono λm _=>h.fenced P m
def yo.comes(h:yo F){e:Ending}(b:Comes P m m' e):ComesIn (Machine.fenced P F) P m m' e:=by
 cases e with
 |returned v=>exact h.steps b
 |panicked c=>exact h.steps b
 |outgrown=>exact b
def yo.calls(h:yo F){n:Nat}{args:Array Value}{w:World}{R:Ending->World->Prop}(d:Calls P f args w R):CallsIn F n P f args w R:=
 ⟨h.fn f,λb _=>let ⟨e,w',fr,r,s,x⟩:=d b;⟨e,w',fr,r,h.comes s,x⟩⟩
def yo.rows(h:yo F){n:Nat}{row:String}{args:Array Value}{w:World}{R:Value->World->Prop}(d:Go.Rows P row args w R):RowsIn F n P row args w R:=
 λc b _=>let ⟨v,w',r,s⟩:=d c b;⟨v,w',r,h.steps s⟩
def yo.need(h:yo F){n:Nat}:F.depth.isSome=true->1<=n:=λb=>by rw[h.depth]at b;cases b
variable{a:Act}{Q:LF}
def yo.op(h:yo F){n:Nat}{o:Oper}{w:World}{K:LG}(d:∀c,o.op≠.defer c)(b:o.wp P a w K Q):o.wpIn F n P a w K Q:=by
 refine⟨λf _=>h.fn f,?_⟩;rw[Oper.semAt_eq _ _ _ d];unfold Oper.wp at b;generalize (execOp a.eval o).run P w=r at*
 cases r with
 |ok x w'=>
  cases x <;> simp only[Oper.upon,Oper.uponIn]at b ⊢
  case value=>exact b
  case skip=>exact b
  case defer=>exact b
  case enter=>exact⟨h.need,(h.calls b).mono λe w'' g=>by cases e <;> exact g⟩
  case row=>exact⟨h.need,h.rows b⟩
 |halt x w'=>cases x <;> simp only[Oper.upon,Oper.uponIn]at b ⊢;exact b
def zsd(o:Oper):Bool:=match o.op with|.defer _=>false|_=>true
def zgu{o:Oper}(h:zsd o=true):∀c,o.op≠.defer c:=λc e=>by unfold zsd at h;rw[e]at h;cases h
def y9(l:List Oper):Bool:=l.all zsd
def zl0{l:List Oper}(h:y9 l=true){o:Oper}(b:o∈l):∀c,o.op≠.defer c:=zgu (XY.1 h o b)
def yo.list{F:Fence}(h:yo F){n:Nat}{P:Program}{ops:Array Oper}{Q:LF}(hQ:∀a w,¬Q .outgrown a w):∀{l:List Oper} {a:Act} {w:World},y9 l=true->
  wpList P ops Q l a w->wpListIn F n P ops Q l a w
 |[],_,_,_,b=>b
 |o::r,a,w,g,b=>by
  have d:zsd o=true/\y9 r=true:=by unfold y9 at g ⊢;rw[YS,XF]at g;exact g
  unfold wpList at b;unfold wpListIn
  split
  .rename_i e;rw[Xe e]at b;have b:=b.resolve_right λk=>by obtain⟨_,j,w',k⟩:=k;exact hQ _ _ k
   exact h.op (zgu d.1) (Oper.wp_mono (λa w i=>h.list hQ d.2 i) b)
  rename_i e;rw[Xc e]at b;exact⟨λf _=>h.fn f,h.list hQ d.2 b⟩
def yo.any{F:Fence}(h:yo F){n:Nat}{P:Program}{l:Region.Mode}{ops:Array Oper}{Q:LF}(hQ:∀a w,¬Q .outgrown a w)(d:y9 ops.toList=true):
  ∀{fuel:Nat} {listed:Array Bool} {a:Act} {w:World},wpAny P l ops Q fuel listed a w->wpAnyIn F n P l ops Q fuel listed a w
 |0,_,_,_,e=>e
 |fuel+1,listed,a,w,e=>by
  refine⟨e.1,λi hi=>?_⟩;have:=e.2 i hi;unfold wpOp at this;unfold wpOpIn
  cases j:ops[i]? with
  |none=>rw[j]at this;exact h.any hQ d this
  |some o=>
   rw[j]at this;dsimp only at this ⊢;have g:=zl0 d (o:=o) (by rw[Array.mem_toList_iff];exact Array.mem_of_getElem? j)
   split
   .rename_i b;rw[Xe b]at this;have:=this.resolve_right λk=>by obtain⟨_,q,w',k⟩:=k;exact hQ _ _ k
    exact h.op g (Oper.wp_mono (λa w p=>h.any hQ d p) this)
   rename_i b;rw[Xc b]at this;exact⟨λf _=>h.fn f,h.any hQ d this⟩
def u9:Code->Bool
 |.region _ ops _=>y9 ops.toList
 |.seq x y=>u9 x&&u9 y
 |.cond _ x y=>u9 x&&u9 y
 |.block _ c=>u9 c
 |.loop c=>u9 c
 |.scope _=>false
 |_=>true
variable{E:Env}
def u1.grown{Q:LH}(a:Act)(w:World):¬u1 E Q .outgrown a w:=λh=>h
def zn9(hF:yo F){n:Nat}(hT:TOK P I)(i:P.follows .mixedOrders=true){id:Nat}{ops:Array Oper}{draw:Bool}{O:St}{Q:LH}{Z:zh}{w:World}(g:y9 ops.toList=true)(b:Rel E O Z a w)(h:js P I (.region id ops draw) O Q):(Code.region id ops draw).wpIn F n P (u1 E Q) a w:=by
 cases draw with
 |false=>
  have h:vh P I false ops.toList ops.toList 0 O (Q .normal):=h;refine wpIn_region_list (hF.list u1.grown g ?_);have:=zkb (Q:=u1 E Q) hT (λO Z a w h b=>⟨O,Z,h,b⟩) b h
  simpa using this
 |true=>
  have h:Dr (vz ops.toList=true) (vh P I true ops.toList ops.toList 0 O (Q .normal)) (Ob (zgf ops.toList=true) (zbo P I ops.toList ops.toList 0 [] O (Q .normal))):=h;refine wpIn_region_any i (hF.any u1.grown g ?_)
  obtain⟨d,e⟩|⟨d,e⟩:=h
  .exact zeb hT b d e λO Z a w h b=>⟨O,Z,h,b⟩
  exact zg8 hT b d e λO Z a w h b=>⟨O,Z,h,b⟩
def zaU{n:Nat}{w:World}(Vd:Nat->LG)(n₀:Nat)(h₀:Vd n₀ a w)(round:∀m a w,Vd m a w->c.wpIn F n P (Exit.then (λd w'=>∃m',m'<m/\Vd m' d w') Q) a w):(Code.loop c).wpIn F n P Q a w:=by
 refine wpIn_loop (λa w=>∃m,Vd m a w) (λa w=>leastOf (λm=>Vd m a w)) ⟨n₀,h₀⟩ λa w hI=>wpIn_mono (round _ a w (leastOf_spec hI).1) λe d w' b=>?_
 cases e with
 |normal=>
  obtain⟨m',g,hI'⟩:=b;exact show(∃m,Vd m d w')/\leastOf (λm=>Vd m d w')<leastOf (λm=>Vd m a w) from⟨⟨m',hI'⟩,Qi ((leastOf_spec ⟨m',hI'⟩).2 m' hI') g⟩
 |exit id=>exact b
 |goto l=>exact b
 |ret=>exact b
 |panic ch=>exact b
 |outgrown=>exact b
def uX{F:Fence}(hF:yo F){n:Nat}{P:Program}{I:LS}(hT:TOK P I)(o:P.follows .mixedOrders=true){E:Env}:∀(c:Code) {O:St} {Q:LH} {Z:zh} {a:Act} {w:World},
  u9 c=true->Rel E O Z a w->js P I c O Q->c.wpIn F n P (u1 E Q) a w
 |.skip,O,Q,Z,a,w,_,g,h=>wpIn_skip ⟨O,Z,h,g⟩
 |.region id ops draw,O,Q,Z,a,w,d,g,h=>zn9 hF hT o d g h
 |.seq x y,O,Q,Z,a,w,d,g,h=>by
  have d:u9 x=true/\u9 y=true:=by unfold u9 at d;rwa [XF]at d
  refine wpIn_seq (wpIn_mono (uX hF hT o x d.1 g h) (λe v w' k=>?_))
  cases e with
  |normal=>obtain⟨O',Z',q,l⟩:=k;exact uX hF hT o y d.2 l q
  |exit id=>exact k
  |ret=>exact k
  |_=>exact k.elim
 |.cond c x y,O,Q,Z,a,w,d,g,h=>by
  have d:u9 x=true/\u9 y=true:=by unfold u9 at d;rwa [XF]at d
  obtain⟨s,h,V⟩:=zc8 h;have z:=V (a:=a) (λt s _ U=>(g.regs t s U).2)
  split at h
  .exact wpIn_cond_true z.val_inv (uX hF hT o x d.1 g h)
  .exact wpIn_cond_false z.val_inv (uX hF hT o y d.2 g h)
  .rename_i p i
   by_cases B:p
   .exact wpIn_cond_true (by rw[z.pr_inv];simp[B]) (uX hF hT o x d.1 g (h.yes B))
   exact wpIn_cond_false (by rw[z.pr_inv];simp[B]) (uX hF hT o y d.2 g (h.no B))
  .obtain⟨b,u⟩:=z.anyb_inv
   cases b with
   |true=>exact wpIn_cond_true u (uX hF hT o x d.1 g h.yes)
   |false=>exact wpIn_cond_false u (uX hF hT o y d.2 g h.no)
  exact h.elim
 |.block id c,O,Q,Z,a,w,d,g,h=>by
  refine wpIn_block (wpIn_mono (uX hF hT o c d g h) (λe v w' k=>?_))
  cases e with
  |normal=>exact k
  |exit j=>
   obtain⟨O',Z',q,l⟩:=k;dsimp only at q;show(if j=id then u1 E Q .normal v w' else u1 E Q (.exit j) v w')
   split at q
   .rename_i u;rw[Xe (Xk u)];exact⟨O',Z',q,l⟩
   rename_i u;rw[Xc (KR u)];exact⟨O',Z',q,l⟩
  |ret=>exact k
  |_=>exact k.elim
 |.loop c,O,Q,Z,a,w,d,g,h=>by
  obtain⟨ι,S,Vd,μ,L,N,A,hround⟩:=h;obtain⟨K,D⟩:=A E Z a w g;refine zaU (λn a w=>∃x Z,Vd x/\μ x=n/\Rel E (S x) Z a w) (μ L) ⟨L,K,N,rfl,D⟩ λn a w hI=>?_
  obtain⟨x,Z1,R,rfl,G⟩:=hI;refine wpIn_mono (uX hF hT o c d G (hround x R)) (λe v w' k=>?_)
  cases e with
  |normal=>
   obtain⟨O',Z',⟨x',T,J,C⟩,l⟩:=k;obtain⟨Z2,H⟩:=J E Z' v w' l;exact⟨μ x',C,x',Z2,T,rfl,H⟩
  |exit id=>exact k
  |ret=>exact k
  |_=>exact k.elim
 |.exit id,O,Q,Z,a,w,_,g,h=>wpIn_exit ⟨O,Z,h,g⟩
 |.ret,O,Q,Z,a,w,_,g,h=>wpIn_ret ⟨O,Z,h,g⟩
 |.rangeFunc _ _ _ _,_,_,_,_,_,_,_,h=>by cases h
 |.scope _,_,_,_,_,_,d,_,_=>by cases d
 |.label _,O,Q,Z,a,w,_,g,h=>wpIn_label ⟨O,Z,h,g⟩
 |.goto _,_,_,_,_,_,_,_,h=>by cases h
 |.refuse _,_,_,_,_,_,_,_,h=>by cases h
end
end Go.Gs
