/- How many pieces a curve is cut into, both texts. -/
import Derived.Test.YtakicgnbhdpknaaGreatDoorNAW
import Derived.RangeFuncRecord
import Derived.OrdersIn
import Derived.TacticsIn
set_option maxRecDepth 100000
set_option maxHeartbeats 8000000
set_option linter.all false
namespace Go.Gs
open Proofs.Tryz
open Go.Proofs
def zaW{a b c:Int}(ha: -1048576<=a/\a<=1048576)(hb: -1048576<=b/\b<=1048576)(hc: -1048576<=c/\c<=1048576):
  (-4194304<=a-2*b+c/\a-2*b+c<=4194304)/\0<=(a-2*b+c)*(a-2*b+c)/\(a-2*b+c)*(a-2*b+c)<=17592186044416:=by
 have h: -4194304<=a-2*b+c/\a-2*b+c<=4194304:=oM;have h1:=ju (A:=4194304) (B:=4194304) h h;have h2:=ja (a-2*b+c);omega
def vQ{a b c:Pt}(ha:zr a)(hb:zr b)(hc:zr c):0<=ym a b c/\ym a b c<=35184372088832:=by
 have h1:=zaW ha.1 hb.1 hc.1;have h2:=zaW ha.2 hb.2 hc.2;unfold ym;omega
def zkE(a b c:Pt)(ha:zr a)(hb:zr b)(hc:zr c):CX 425 [wk a,wk b,wk c] (i64 (ym a b c)):=by
 have h1:=zaW ha.1 hb.1 hc.1;have h2:=zaW ha.2 hb.2 hc.2;unfold zr at ha hb hc;refine zc func425<|wc ?_;(iterate 9 refine wa ?_);exact .refl
def zsk(a b c:Pt)(ha:zr a)(hb:zr b)(hc:zr c):CX 483 [wk a,wk b,wk c] (i64 (ym a b c)):=by
 have h1:=zaW ha.1 hb.1 hc.1;have h2:=zaW ha.2 hb.2 hc.2;unfold zr at ha hb hc;refine zc func483 ?_;(iterate 9 refine wa ?_);exact .refl
def zfF{need tol:Int}{i:Nat}(h:i<=64):yy need tol (65-i) i=if enough need tol i then((i:Int),0) else yy need tol (65-(i+1)) (i+1):=by
 rw[show 65-i=(64-i)+1 by omega,yy,show 65-(i+1)=64-i by omega]
def zfG{i:Nat}{tol:Int}(hi:i<=64)(ht:1<=tol/\tol<=256):
  (-65536<=16*(i:Int)*i/\16*(i:Int)*i<=65536)/\(-4194304<=16*(i:Int)*i*i/\16*(i:Int)*i*i<=4194304)/\
  (-268435456<=16*(i:Int)*i*i*i/\16*(i:Int)*i*i*i<=268435456)/\(-68719476736<=16*(i:Int)*i*i*i*tol/\16*(i:Int)*i*i*i*tol<=68719476736)/\
  (-17592186044416<=16*(i:Int)*i*i*i*tol*tol/\16*(i:Int)*i*i*i*tol*tol<=17592186044416):=by
 have h2:=ju (A:=1024) (B:=64) (a:=16*(i:Int)) (b:=i) oM oM;have h3:=ju (A:=65536) (B:=64) (a:=16*(i:Int)*i) (b:=i) oM oM;have h4:=ju (A:=4194304) (B:=64) (a:=16*(i:Int)*i*i) (b:=i) oM oM;have h5:=ju (A:=268435456) (B:=256) (a:=16*(i:Int)*i*i*i) (b:=tol) oM oM;have h6:=ju (A:=68719476736) (B:=256) (a:=16*(i:Int)*i*i*i*tol) (b:=tol) oM oM;omega
def zix(c:Int×Int):SV:=.tup [i64 c.1,i64 c.2]
def ur{c:Int×Int}{a b:Int}(h:c=(a,b)):LE (.tup [i64 a,i64 b]) (zix c):=by subst h;exact .refl
def zqj(need tol:Int)(l:LU)(hl:l.length<=4):CX 424 [i64 need,i64 tol,.sl ptE l] (zix (kV need tol l)):=by
 refine zc func424 ?_;have bad:¬(1<=tol/\tol<=256)->kV need tol l=(0,2):=λh=>by unfold kV;rw[Xe h]
 refine⟨λa1=>ur (bad (λh=>by have a1:tol<1:=a1;omega)),λa1=>?_⟩;refine⟨λa2=>ur (bad (λh=>by have a2:256<tol:=a2;omega)),λa2=>?_⟩;have ht:1<=tol/\tol<=256:=⟨by have a1:¬tol<1:=a1;omega,by have a2:¬256<tol:=a2;omega⟩;intro hl2;refine⟨Nat,λi=>⟨[(0,i64 need),(1,i64 tol),(17,.sl ptE l),(18,i64 l.length),(19,i64 i)],[],0,46,0⟩,λi=>i<=l.length/\∀p∈l.take i,zr p,λi=>l.length-i,0,?_,?_,?_⟩
 ·exact⟨Xh _,λp hp=>by cases hp⟩
 ·exact zB []
 rintro i ⟨h1,h2⟩
 refine⟨λg:(i:Int)<l.length=>?_,λg:¬(i:Int)<l.length=>?_⟩
 ·refine wb λx(hx:l[i]?=some x)=>?_;refine wg (kY x)<|⟨λb=>?_,λb=>?_⟩
  ·refine ur ?_;unfold kV;rw[kH ht,Xe (λk=>b (k x (Xf hx)))]
  have b:=Xa.1 b;refine wa<|⟨i+1,⟨oM,λp hp=>?_⟩,zB [],oN⟩;rw[Xl,hx]at hp
  rcases Xs.1 hp with hp|hp
  ·exact h2 p hp
  simp at hp;rw[hp];exact b
 have hv:∀p∈l,zr p:=by rw[Xi oM]at h2;exact h2
 have e:kV need tol l=yy need tol 64 1:=by unfold kV;rw[kH ht,kH hv]
 refine⟨Nat,λi=>⟨[(0,i64 need),(1,i64 tol),(10,i64 i)],[],0,46,0⟩,λi=>1<=i/\i<=65/\yy need tol (65-i) i=yy need tol 64 1,λi=>65-i,1,?_,?_,?_⟩
 ·exact⟨dC,dC,rfl⟩
 ·exact zB []
 rintro i ⟨h3,h4,h5⟩
 refine⟨λg:(i:Int)<=64=>?_,λg:¬(i:Int)<=64=>?_⟩
 ·have ch:=zfG (i:=i) oM ht;have st:=zfF (need:=need) (tol:=tol) (i:=i) oM;rw[h5]at st;(iterate 6 refine wa ?_);refine⟨λk:enough need tol i=>?_,λk:¬enough need tol i=>?_⟩
  ·exact ur (by rw[e,st,Xe k])
  refine wa ?_;refine⟨i+1,⟨oM,oM,by rw[st,Xc k]⟩,zB [],oN⟩
 have h6:i=65:=oM;subst h6;exact ur (by rw[e,←h5];rfl)
def zyc(tol:Int):CX 222 [i64 tol] (pr (ze8 tol)):=by
 refine zc func222<|Br.mk (λh=>?_) (λh=>zd (λk=>h k.1));exact zE ⟨λk=>⟨h,k⟩,λk=>k.2⟩
def zol(l:LU):CX 452 [.sl ptE l] (pr (∀p∈l,zr p)):=by
 refine zc func452<|⟨Nat,λi=>⟨[(0,.sl ptE l),(3,i64 i)],[],0,16,0⟩,λi=>i<=l.length/\∀p∈l.take i,zr p,λi=>l.length-i,0,?_,?_,?_⟩
 ·exact⟨Xh _,λp hp=>by cases hp⟩
 ·exact zB []
 rintro i ⟨h1,h2⟩
 intro hl1;refine⟨λg:(i:Int)<l.length=>?_,λg:¬(i:Int)<l.length=>?_⟩
 ·refine wb λx(hx:l[i]?=some x)=>?_;refine wg (z9 x)<|⟨λb=>zd λk=>b (k x (Xf hx)),λb=>?_⟩;have b:=Xa.1 b;refine wa<|⟨i+1,⟨oM,λp hp=>?_⟩,zB [],oN⟩;rw[Xl,hx]at hp
  rcases Xs.1 hp with hp|hp
  ·exact h2 p hp
  simp at hp;rw[hp];exact b
 rw[Xi oM]at h2;exact zH h2
def zAT(a b c:Pt)(tol:Int):CX 450 [.sl ptE [a,b,c],i64 tol,i64 1] (zix (kV (1*(ym a b c)) tol [a,b,c])):=by
 refine zc func450<|wg (zyc tol)<|⟨λa1=>ur (by unfold kV;rw[Xe (show¬(1<=tol/\tol<=256) from a1)]),λa1=>?_⟩;have ht:1<=tol/\tol<=256:=Xa.1 a1;refine wg (zol [a,b,c])<|⟨λa2=>ur (by unfold kV;rw[kH ht,Xe a2]),λa2=>?_⟩;have hv:∀p∈[a,b,c],zr p:=Xa.1 a2;have e:kV (1*(ym a b c)) tol [a,b,c]=yy (1*(ym a b c)) tol 64 1:=by unfold kV;rw[kH ht,kH hv]
 have ha:=hv a sI;have hb:=hv b sI;have hc:=hv c sI;have r1:=vQ ha hb hc;refine wc<|Ob.mk (by show(0:Int)<=0/\(0:Int)<(3:Nat);decide) λx hx=>?_
 cases (show some a=some x from hx)
 refine Ob.mk (by show(0:Int)<=1/\(1:Int)<(3:Nat);decide) λx hx=>?_
 cases (show some b=some x from hx)
 refine Ob.mk (by show(0:Int)<=2/\(2:Int)<(3:Nat);decide) λx hx=>?_
 cases (show some c=some x from hx)
 refine wg (zsk a b c ha hb hc) λhl=>?_;refine⟨λk=>absurd k (by show¬(3:Int)<(3:Nat);decide),λ_=>?_⟩;generalize hD:ym a b c=D at*;have rD:0<=D/\D<=35184372088832:=oM;refine⟨Nat,λi=>⟨[(1,i64 tol),(2,i64 1),(8,i64 D),(9,i64 i)],[],0,62,0⟩,λi=>1<=i/\i<=65/\yy (1*D) tol (65-i) i=yy (1*D) tol 64 1,λi=>65-i,1,?_,?_,?_⟩
 ·exact⟨dC,dC,rfl⟩
 ·exact zB []
 rintro i ⟨h3,h4,h5⟩
 refine⟨λg:(i:Int)<=64=>?_,λg:¬(i:Int)<=64=>?_⟩
 ·have ch:=zfG (i:=i) oM ht;have st:=zfF (need:=1*D) (tol:=tol) (i:=i) oM;rw[h5]at st;(iterate 7 refine wa ?_);refine⟨λk:enough (1*D) tol i=>?_,λk:¬enough (1*D) tol i=>?_⟩
  ·exact ur (by rw[e,st,Xe k])
  refine wa ?_;refine⟨i+1,⟨oM,oM,by rw[st,Xc k]⟩,zB [],oN⟩
 have h6:i=65:=oM;subst h6;exact ur (by rw[e,←h5];rfl)
def zAU(a b c d:Pt)(tol:Int):CX 450 [.sl ptE [a,b,c,d],i64 tol,i64 9] (zix (kV (9*(max (ym a b c) (ym b c d))) tol [a,b,c,d])):=by
 refine zc func450<|wg (zyc tol)<|⟨λa1=>ur (by unfold kV;rw[Xe (show¬(1<=tol/\tol<=256) from a1)]),λa1=>?_⟩;have ht:1<=tol/\tol<=256:=Xa.1 a1;refine wg (zol [a,b,c,d])<|⟨λa2=>ur (by unfold kV;rw[kH ht,Xe a2]),λa2=>?_⟩;have hv:∀p∈[a,b,c,d],zr p:=Xa.1 a2;have e:kV (9*(max (ym a b c) (ym b c d))) tol [a,b,c,d]=yy (9*(max (ym a b c) (ym b c d))) tol 64 1:=by unfold kV;rw[kH ht,kH hv]
 have ha:=hv a sI;have hb:=hv b sI;have hc:=hv c sI;have hd:=hv d sI;have r1:=vQ ha hb hc;have r2:=vQ hb hc hd;refine wc<|Ob.mk (by show(0:Int)<=0/\(0:Int)<(4:Nat);decide) λx hx=>?_
 cases (show some a=some x from hx)
 refine Ob.mk (by show(0:Int)<=1/\(1:Int)<(4:Nat);decide) λx hx=>?_
 cases (show some b=some x from hx)
 refine Ob.mk (by show(0:Int)<=2/\(2:Int)<(4:Nat);decide) λx hx=>?_
 cases (show some c=some x from hx)
 refine wg (zsk a b c ha hb hc) λhl=>?_;refine⟨λ_=>?_,λk=>absurd (show(3:Int)<(4:Nat) by decide) k⟩;refine wc<|Ob.mk (by show(0:Int)<=1/\(1:Int)<(4:Nat);decide) λx hx=>?_
 cases (show some b=some x from hx)
 refine Ob.mk (by show(0:Int)<=2/\(2:Int)<(4:Nat);decide) λx hx=>?_
 cases (show some c=some x from hx)
 refine Ob.mk (by show(0:Int)<=3/\(3:Int)<(4:Nat);decide) λx hx=>?_
 cases (show some d=some x from hx)
 refine wg (zsk b c d hb hc hd) ?_;generalize hD:max (ym a b c) (ym b c d)=D at*;have rD:0<=D/\D<=35184372088832:=oM;refine⟨Nat,λi=>⟨[(1,i64 tol),(2,i64 9),(8,i64 D),(9,i64 i)],[],0,62,0⟩,λi=>1<=i/\i<=65/\yy (9*D) tol (65-i) i=yy (9*D) tol 64 1,λi=>65-i,1,?_,?_,?_⟩
 ·exact⟨dC,dC,rfl⟩
 ·exact ji [] ⟨rfl,rfl,iR hD,rfl,tV⟩ trivial
 rintro i ⟨h3,h4,h5⟩
 refine⟨λg:(i:Int)<=64=>?_,λg:¬(i:Int)<=64=>?_⟩
 ·have ch:=zfG (i:=i) oM ht;have st:=zfF (need:=9*D) (tol:=tol) (i:=i) oM;rw[h5]at st;(iterate 7 refine wa ?_);refine⟨λk:enough (9*D) tol i=>?_,λk:¬enough (9*D) tol i=>?_⟩
  ·exact ur (by rw[e,st,Xe k])
  refine wa ?_;refine⟨i+1,⟨oM,oM,by rw[st,Xc k]⟩,zB [],oN⟩
 have h6:i=65:=oM;subst h6;exact ur (by rw[e,←h5];rfl)
def zvp(a b c:Pt)(tol:Int)(ha:zr a)(hb:zr b)(hc:zr c):CX 364 [.agg (ptE a++ptE b++ptE c),i64 tol] (zix (jV a b c tol)):=by
 refine zc func364<|zfZ.data<|wc ?_;have r1:=vQ ha hb hc;refine wg (zkE a b c ha hb hc)<|⟨Pt,ptE,[a,b,c],rfl,wb13 ?_⟩;exact wg (zqj (ym a b c) tol [a,b,c] (by show 3<=4;decide))<|.refl
def zvq(a b c:Pt)(tol:Int):CX 401 [.agg (ptE a++ptE b++ptE c),i64 tol] (zix (jV a b c tol)):=by
 refine zc func401<|zfZ.data<|⟨Pt,ptE,[a,b,c],rfl,wb0 ?_⟩;have c0:=zAT a b c tol;rw[JR]at c0;exact zb.see 0 _ c0 rfl rfl rfl<|.refl
def zvr(a b c d:Pt)(tol:Int)(ha:zr a)(hb:zr b)(hc:zr c)(hd:zr d):CX 369 [.agg (ptE a++ptE b++ptE c++ptE d),i64 tol] (zix (jW a b c d tol)):=by
 refine zc func369<|zfZ.data<|wc ?_;have r1:=vQ ha hb hc;refine wg (zkE a b c ha hb hc) ?_;have r2:=vQ hb hc hd;refine wg (zkE b c d hb hc hd)<|Ar.fit (by show-9223372036854775808<=9*max (ym a b c) (ym b c d)/\9*max (ym a b c) (ym b c d)<=9223372036854775807;omega)<|⟨Pt,ptE,[a,b,c,d],rfl,wb13 ?_⟩;exact wg (zqj (9*max (ym a b c) (ym b c d)) tol [a,b,c,d] (by show 4<=4;decide))<|.refl
def zvs(a b c d:Pt)(tol:Int):CX 403 [.agg (ptE a++ptE b++ptE c++ptE d),i64 tol] (zix (jW a b c d tol)):=by
 refine zc func403<|zfZ.data<|⟨Pt,ptE,[a,b,c,d],rfl,wb0 ?_⟩;have c0:=zAU a b c d tol;exact zb.see 0 _ c0 rfl rfl rfl<|.refl
def zyd(a b:Int)(ha: -8796093022208<=a/\a<=8796093022208)(hb:0<b/\b<=1048576):CX 429 [i64 a,i64 b] (i64 (zdD a b)):=by
 have td:=tdm (m:=2*a+b) (n:=2*b) oM;have tr:=zjW (m:=2*a+b) (n:=2*b) oM ⟨oM,oM⟩;refine zc func429 ?_;(iterate 3 refine wa ?_);have e:zdD a b=(2*a+b)/(2*b):=rfl;have tr2:=tr.2 oM;have tr1:=tr.1;clear tr;refine Dv.any (by omega:2*b≠0)<|Ar.fit tr1<|Dv.any (by omega:2*b≠0)<|⟨λk=>?_,λk=>?_⟩
 ·have k:(2*a+b).tmod (2*b)<0:=k;exact Ar.fit (by unfold R64 at tr1;omega)<|ze (by rw[e];omega)
 have k:¬(2*a+b).tmod (2*b)<0:=k;exact ze (by rw[e];omega)
def zi4(a b:Int)(ha: -8796093022208<=a/\a<=8796093022208)(hb:0<b/\b<=1048576):CX 453 [i64 a,i64 b] (i64 (zdD a b)):=by
 have td:=tdm (m:=2*a+b) (n:=2*b) oM;have tr:=zjW (m:=2*a+b) (n:=2*b) oM ⟨oM,oM⟩;refine zc func453 ?_;(iterate 3 refine wa ?_);have e:zdD a b=(2*a+b)/(2*b):=rfl;have tr2:=tr.2 oM;have tr1:=tr.1;clear tr;refine Dv.any (by omega:2*b≠0)<|Ar.fit tr1 ?_;(iterate 2 refine wa ?_);refine⟨λk:2*a+b<0=>?_,λk:¬2*a+b<0=>?_⟩
 ·(iterate 3 refine wa ?_);refine Dv.any (by omega:2*b≠0)<|⟨λk2=>?_,λk2=>?_⟩
  ·have k2:¬(2*a+b).tmod (2*b)=0:=k2;exact Ar.fit (by unfold R64 at tr1;omega)<|ze (by rw[e];omega)
  have k2:(2*a+b).tmod (2*b)=0:=Xa.1 k2;exact ze (by rw[e];omega)
 exact ze (by rw[e];omega)
def zt1(i n:Int):CX 451 [i64 i,i64 n] (pr (1<=n/\n<=64/\0<=i/\i<=n)):=by
 refine zc func451<|Br.mk (λh1=>?_) (λh1=>zd (λk=>h1 k.1));refine⟨λh2=>?_,λh2=>zd (λk=>h2 k.2.1)⟩;refine⟨λh3=>?_,λh3=>zd (λk=>h3 k.2.2.1)⟩;exact zE ⟨λh4=>⟨h1,h2,h3,h4⟩,λh=>h.2.2.2⟩
def zye(l:LU)(i n:Int)(hl:l.length<=4):CX 427 [.sl ptE l,i64 i,i64 n] (pr (zpN l i n)):=by
 refine zc func427 λhl1=>?_;refine⟨Nat,λk=>⟨[(1,i64 i),(2,i64 n),(9,.sl ptE l),(10,i64 l.length),(11,i64 k)],[],0,34,0⟩,λk=>k<=l.length/\∀p∈l.take k,zr p,λk=>l.length-k,0,?_,?_,?_⟩
 ·exact⟨Xh _,λp hp=>by cases hp⟩
 ·exact zB []
 rintro k ⟨h1,h2⟩
 refine⟨λg:(k:Int)<l.length=>?_,λg:¬(k:Int)<l.length=>?_⟩
 ·refine wb λx(hx:l[k]?=some x)=>?_;refine wg (kY x)<|⟨λb=>zd λq=>b (q.1 x (Xf hx)),λb=>?_⟩;have b:=Xa.1 b;refine wa<|⟨k+1,⟨oM,λp hp=>?_⟩,zB [],oN⟩;rw[Xl,hx]at hp
  rcases Xs.1 hp with hp|hp
  ·exact h2 p hp
  simp at hp;rw[hp];exact b
 have hv:∀p∈l,zr p:=by rw[Xi oM]at h2;exact h2
 refine⟨λh1=>?_,λh1=>zd (λk=>h1 k.2.1)⟩;refine⟨λh2=>?_,λh2=>zd (λk=>h2 k.2.2.1)⟩;refine⟨λh3=>?_,λh3=>zd (λk=>h3 k.2.2.2.1)⟩;exact zE ⟨λh4=>⟨hv,h1,h2,h3,h4⟩,λh=>h.2.2.2.2⟩
def zom{k i n x y z:Int}(hk:0<=k/\k<=64)(hi:0<=i/\i<=64)(hn:1<=n/\n<=64)(hx: -1048576<=x/\x<=1048576)(hy: -1048576<=y/\y<=1048576)(hz: -1048576<=z/\z<=1048576):
  (-4096<=k*k/\k*k<=4096)/\(-4294967296<=k*k*x/\k*k*x<=4294967296)/\(-8192<=2*i*k/\2*i*k<=8192)/\(-8589934592<=2*i*k*y/\2*i*k*y<=8589934592)/\
  (-4096<=i*i/\i*i<=4096)/\(-4294967296<=i*i*z/\i*i*z<=4294967296)/\(0<n*n/\n*n<=4096):=by
 have h1:=ju (A:=64) (B:=64) (a:=k) (b:=k) oM oM;have h2:=ju (A:=4096) (B:=1048576) (a:=k*k) (b:=x) oM oM;have h3:=ju (A:=128) (B:=64) (a:=2*i) (b:=k) oM oM;have h4:=ju (A:=8192) (B:=1048576) (a:=2*i*k) (b:=y) oM oM;have h5:=ju (A:=64) (B:=64) (a:=i) (b:=i) oM oM;have h6:=ju (A:=4096) (B:=1048576) (a:=i*i) (b:=z) oM oM;have h7:=ju (A:=64) (B:=64) (a:=n) (b:=n) oM oM;have h8:=Ja (show 0<n by omega) (show 0<n by omega);omega
def zon{k i n x y z u:Int}(hk:0<=k/\k<=64)(hi:0<=i/\i<=64)(hn:1<=n/\n<=64)(hx: -1048576<=x/\x<=1048576)(hy: -1048576<=y/\y<=1048576)(hz: -1048576<=z/\z<=1048576)(hu: -1048576<=u/\u<=1048576):
  ((-4096<=k*k/\k*k<=4096)/\(-262144<=k*k*k/\k*k*k<=262144)/\(-274877906944<=k*k*k*x/\k*k*k*x<=274877906944))/\
  ((-12288<=3*i*k/\3*i*k<=12288)/\(-786432<=3*i*k*k/\3*i*k*k<=786432)/\(-824633720832<=3*i*k*k*y/\3*i*k*k*y<=824633720832))/\
  ((-12288<=3*i*i/\3*i*i<=12288)/\(-786432<=3*i*i*k/\3*i*i*k<=786432)/\(-824633720832<=3*i*i*k*z/\3*i*i*k*z<=824633720832))/\
  ((-4096<=i*i/\i*i<=4096)/\(-262144<=i*i*i/\i*i*i<=262144)/\(-274877906944<=i*i*i*u/\i*i*i*u<=274877906944))/\((0<n*n/\n*n<=4096)/\(0<n*n*n/\n*n*n<=262144)):=by
 have h1:=ju (A:=64) (B:=64) (a:=k) (b:=k) oM oM;have h2:=ju (A:=4096) (B:=64) (a:=k*k) (b:=k) oM oM;have h3:=ju (A:=262144) (B:=1048576) (a:=k*k*k) (b:=x) oM oM;have h4:=ju (A:=192) (B:=64) (a:=3*i) (b:=k) oM oM;have h5:=ju (A:=12288) (B:=64) (a:=3*i*k) (b:=k) oM oM;have h6:=ju (A:=786432) (B:=1048576) (a:=3*i*k*k) (b:=y) oM oM;have h7:=ju (A:=192) (B:=64) (a:=3*i) (b:=i) oM oM;have h8:=ju (A:=12288) (B:=64) (a:=3*i*i) (b:=k) oM oM
 have h9:=ju (A:=786432) (B:=1048576) (a:=3*i*i*k) (b:=z) oM oM;have i1:=ju (A:=64) (B:=64) (a:=i) (b:=i) oM oM;have i2:=ju (A:=4096) (B:=64) (a:=i*i) (b:=i) oM oM;have i3:=ju (A:=262144) (B:=1048576) (a:=i*i*i) (b:=u) oM oM;have n1:=ju (A:=64) (B:=64) (a:=n) (b:=n) oM oM;have n2:=ju (A:=4096) (B:=64) (a:=n*n) (b:=n) oM oM;have n3:=Ja (show 0<n by omega) (show 0<n by omega);have n4:=Ja n3 (show 0<n by omega);omega
def zmB(x y z k i n:Int)(hk:0<=k/\k<=64)(hi:0<=i/\i<=64)(hn:1<=n/\n<=64)(hx: -1048576<=x/\x<=1048576)(hy: -1048576<=y/\y<=1048576)(hz: -1048576<=z/\z<=1048576):
  CX 428 [i64 x,i64 y,i64 z,.ptr [i64 k],.ptr [i64 i],.ptr [i64 n]] (i64 (zdD (k*k*x+2*i*k*y+i*i*z) (n*n))):=by
 have t:=zom hk hi hn hx hy hz;refine zc func428 ?_;(iterate 10 refine wa ?_);exact wg (zyd (k*k*x+2*i*k*y+i*i*z) (n*n) oM oM)<|.refl
def zmC{a b c:Pt}{i n:Int}(h:zpN [a,b,c] i n):yT a b c i n=⟨q1 i n a.x b.x c.x,q1 i n a.y b.y c.y⟩:=by
 unfold yT;rw[kH h]
def zyf(a b c:Pt)(i n:Int):CX 368 [.agg (ptE a++ptE b++ptE c),i64 i,i64 n] (wk (yT a b c i n)):=by
 refine zc func368<|zfZ.data<|wc<|⟨Pt,ptE,[a,b,c],rfl,wb13 ?_⟩;refine wg (zye [a,b,c] i n (by show 3<=4;decide))<|⟨λh=>?_,λh=>?_⟩
 ·refine ua (show SV.agg (ptE zp)=_ from ?_);unfold yT;rw[Xe h]
 have h:=Xa.1 h;obtain⟨hv,n1,n2,i1,i2⟩:=h;have ha:=hv a sI;have hb:=hv b sI;have hc:=hv c sI;exact wa<|wc<|wg (zmB a.x b.x c.x (n-i) i n oM oM oM ha.1 hb.1 hc.1)<|wg (zmB a.y b.y c.y (n-i) i n oM oM oM ha.2 hb.2 hc.2)<|ua (Xg (λp=>SV.agg (ptE p)) (zmC ⟨hv,n1,n2,i1,i2⟩).symm)
def zyg(a b c:Pt)(i n:Int):CX 402 [.agg (ptE a++ptE b++ptE c),i64 i,i64 n] (wk (yT a b c i n)):=by
 refine zc func402<|zfZ.data ?_
 have bad:¬zpN [a,b,c] i n->LE (wk zp) (wk (yT a b c i n)):=λh=>by
  refine ua ?_;unfold yT;rw[Xe h]
 refine wg (zt1 i n)<|⟨λh=>bad λk=>h ⟨k.2.1,k.2.2.1,k.2.2.2.1,k.2.2.2.2⟩,λh=>?_⟩;refine⟨Pt,ptE,[a,b,c],rfl,wb0 ?_⟩;refine zb.see 1 _ (zol [a,b,c]) rfl rfl rfl<|Br.mk (λh2=>bad λk=>h2 k.1) (λh2=>?_);obtain⟨n1,n2,i1,i2⟩:=Xa.1 h;have hv:=Xa.1 h2;have ha:=hv a sI;have hb:=hv b sI;have hc:=hv c sI;have t1:=zom (k:=n-i) (i:=i) (n:=n) oM oM oM ha.1 hb.1 hc.1;have t2:=zom (k:=n-i) (i:=i) (n:=n) oM oM oM ha.2 hb.2 hc.2;refine wa ?_
 (iterate 19 refine wa ?_);exact wg (zi4 ((n-i)*(n-i)*a.x+2*i*(n-i)*b.x+i*i*c.x) (n*n) oM oM)<|wa<|wg (zi4 ((n-i)*(n-i)*a.y+2*i*(n-i)*b.y+i*i*c.y) (n*n) oM oM)<|ua (Xg (λp=>SV.agg (ptE p)) (zmC ⟨hv,n1,n2,i1,i2⟩).symm)
def zmD(x y z u k i n:Int)(hk:0<=k/\k<=64)(hi:0<=i/\i<=64)(hn:1<=n/\n<=64)(hx: -1048576<=x/\x<=1048576)(hy: -1048576<=y/\y<=1048576)(hz: -1048576<=z/\z<=1048576)(hu: -1048576<=u/\u<=1048576):
  CX 430 [i64 x,i64 y,i64 z,i64 u,.ptr [i64 k],.ptr [i64 i],.ptr [i64 n]] (i64 (zdD (k*k*k*x+3*i*k*k*y+3*i*i*k*z+i*i*i*u) (n*n*n))):=by
 have t:=zon hk hi hn hx hy hz hu;refine zc func430 ?_;(iterate 19 refine wa ?_);exact wg (zyd (k*k*k*x+3*i*k*k*y+3*i*i*k*z+i*i*i*u) (n*n*n) oM oM)<|.refl
def zmE{a b c d:Pt}{i n:Int}(h:zpN [a,b,c,d] i n):yU a b c d i n=⟨c1 i n a.x b.x c.x d.x,c1 i n a.y b.y c.y d.y⟩:=by
 unfold yU;rw[kH h]
def zyh(a b c d:Pt)(i n:Int):CX 371 [.agg (ptE a++ptE b++ptE c++ptE d),i64 i,i64 n] (wk (yU a b c d i n)):=by
 refine zc func371<|zfZ.data<|wc<|⟨Pt,ptE,[a,b,c,d],rfl,wb13 ?_⟩;refine wg (zye [a,b,c,d] i n (by show 4<=4;decide))<|⟨λh=>?_,λh=>?_⟩
 ·refine ua (show SV.agg (ptE zp)=_ from ?_);unfold yU;rw[Xe h]
 have h:=Xa.1 h;obtain⟨hv,n1,n2,i1,i2⟩:=h;have ha:=hv a sI;have hb:=hv b sI;have hc:=hv c sI;have hd:=hv d sI;exact wa<|wc<|wg (zmD a.x b.x c.x d.x (n-i) i n oM oM oM ha.1 hb.1 hc.1 hd.1)<|wg (zmD a.y b.y c.y d.y (n-i) i n oM oM oM ha.2 hb.2 hc.2 hd.2)<|ua (Xg (λp=>SV.agg (ptE p)) (zmE ⟨hv,n1,n2,i1,i2⟩).symm)
def zyi(a b c d:Pt)(i n:Int):CX 404 [.agg (ptE a++ptE b++ptE c++ptE d),i64 i,i64 n] (wk (yU a b c d i n)):=by
 refine zc func404<|zfZ.data ?_
 have bad:¬zpN [a,b,c,d] i n->LE (wk zp) (wk (yU a b c d i n)):=λh=>by
  refine ua ?_;unfold yU;rw[Xe h]
 refine wg (zt1 i n)<|⟨λh=>bad λk=>h ⟨k.2.1,k.2.2.1,k.2.2.2.1,k.2.2.2.2⟩,λh=>?_⟩;refine⟨Pt,ptE,[a,b,c,d],rfl,wb0 ?_⟩;refine zb.see 1 _ (zol [a,b,c,d]) rfl rfl rfl<|Br.mk (λh2=>bad λk=>h2 k.1) (λh2=>?_);obtain⟨n1,n2,i1,i2⟩:=Xa.1 h;have hv:=Xa.1 h2;have ha:=hv a sI;have hb:=hv b sI;have hc:=hv c sI;have hd:=hv d sI;have t1:=zon (k:=n-i) (i:=i) (n:=n) oM oM oM ha.1 hb.1 hc.1 hd.1
 have t2:=zon (k:=n-i) (i:=i) (n:=n) oM oM oM ha.2 hb.2 hc.2 hd.2;(iterate 32 refine wa ?_)
 (iterate 5 refine wa ?_);refine wg (zi4 ((n-i)*(n-i)*(n-i)*a.x+3*i*(n-i)*(n-i)*b.x+3*i*i*(n-i)*c.x+i*i*i*d.x) (n*n*n) oM oM) ?_;(iterate 2 refine wa ?_);exact wg (zi4 ((n-i)*(n-i)*(n-i)*a.y+3*i*(n-i)*(n-i)*b.y+3*i*i*(n-i)*c.y+i*i*i*d.y) (n*n*n) oM oM)<|ua (Xg (λp=>SV.agg (ptE p)) (zmE ⟨hv,n1,n2,i1,i2⟩).symm)
def zgG(prev:SV->SV)(lm:LJ):SV->SV
 |.loc k off=>(match lm k with
  |some (.box _ cs)=>.dptr ((cs.map prev).drop off)
  |_=>.junk)
 |.own k=>(match lm k with
  |some (.arr _ enc _ xs)=>.sl enc xs
  |_=>.junk)
 |.fn f cs=>.dfn f (frzs prev lm cs)
 |.agg cs=>.agg (frzs prev lm cs)
 |.ifc t s=>.ifc t (zgG prev lm s)
 |.val v=>.val v
 |.pr p i=>.pr p i
 |.sl enc xs=>.sl enc xs
 |.dptr cs=>.dptr cs
 |.dfn f cs=>.dfn f cs
 |.bm f cs=>.bm f cs
 |.op v=>.op v
 |.nils=>.nils
 |.anyb=>.anyb
 |.full enc xs=>.full enc xs
 |_=>.junk
 where
 frzs (prev:SV->SV) (lm:LJ):LR->LR
  |[]=>[]
  |c::cs=>zgG prev lm c::frzs prev lm cs
def frz(lm:LJ):Nat->SV->SV
 |0=>zgG (λ_=>.junk) lm
 |n+1=>zgG (frz lm n) lm
def ziK(lm:LJ)(n:Nat)(s:SV):SV:=
 match s with
 |.tup cs=>.tup (cs.map (frz lm n))
 |s=>frz lm n s
def zkF(prev:SV->SV)(lm:LJ):∀cs,zgG.frzs prev lm cs=cs.map (zgG prev lm)
 |[]=>rfl
 |c::cs=>by rw[zgG.frzs,zkF prev lm cs];rfl
section
variable{Keep:LI}{M:LT}{ρ:zh}{w:World}{lm:LJ}
def zyj(hlm:∀k m,lm k=some m->(k,m)∈M)(hm:zL Keep M ρ w){prev:SV->SV}(hp:∀{s:SV} {v:Value},G (λb=>Keep b∨Own M ρ b) (Own M ρ) ρ w s v->D Keep w (prev s) v):
  ∀(s:SV) {v:Value},G (λb=>Keep b∨Own M ρ b) (Own M ρ) ρ w s v->D Keep w (zgG prev lm s) v:=by
 have hsub:∀b,Keep b->Keep b∨Own M ρ b:=λb h=>.inl h
 intro s
 induction s using SV.rec (motive_2:=λcs=>∀{vs:LA},Gs (λb=>Keep b∨Own M ρ b) (Own M ρ) ρ w cs vs->∀(j:Nat) (s:SV) (v:Value),(zgG.frzs prev lm cs)[j]?=some s->vs[j]?=some v->D Keep w s v) with
 |val v=>intro u hg;rw[hg.val_inv];exact .val v
 |pr p i=>intro u hg;rw[hg.pr_inv];exact .pr p i
 |sl enc xs=>intro u hg;exact hg.sl_inv.less hsub
 |nils=>intro u hg;obtain⟨a,rfl⟩:=hg.nils_inv;exact .nils a
 |anyb=>intro u hg;obtain⟨b,rfl⟩:=hg.anyb_inv;exact .anyb b
 |full enc xs=>intro u hg;obtain⟨a,rfl,hd⟩:=hg.full_inv;exact .full enc xs a (hd.less hsub)
 |dptr cs _=>intro u hg;cases hg with|d _ _ h=>exact h.less hsub
 |dfn f cs _=>intro u hg;cases hg with|d _ _ h=>exact h.less hsub
 |bm f cs _=>intro u hg;cases hg with|d _ _ h=>exact h.less hsub
 |op v=>intro u hg;cases hg with|d _ _ h=>exact h.less hsub
 |ifc t s ih=>
  intro u hg;obtain⟨v,rfl,hv⟩:=hg.ifc_inv;exact .ifc t _ v (ih hv)
 |agg cs ih=>
  intro u hg;obtain⟨vs,rfl,hvs⟩:=hg.agg_inv;exact .agg _ vs (by rw[zkF,Xx];exact hvs.1) (ih hvs)
 |fn f cs ih=>
  intro u hg;obtain⟨vs,rfl,hvs⟩:=hg.fn_inv;exact .dfn f _ vs (by rw[zkF,Xx];exact hvs.1) (ih hvs)
 |loc k off=>
  intro u hg;obtain⟨b,hρ,rfl⟩:=hg.loc_inv;simp only[zgG]
  split
  ·rename_i T cs hk;have hmem:=hlm k _ hk;obtain⟨b',vs,h1,h2,h3,h4,h5⟩:=hm.rel k _ hmem;rw[hρ]at h1;cases h1
   have hb:=hm.old b ⟨k,_,_,hmem,hρ,rfl⟩;refine .dptr _ b off (λj=>(vs[off+j]?).getD undef) hb.1 hb.2 (λj hj=>?_) (λj s hs=>?_)
   ·have hj':off+j<vs.length:=by simp at hj;omega
    rw[zf2 h2];simp only[Xb hj',Qq];exact⟨tV,h4 _ (KI hj')⟩
   rw[Kz,XD]at hs
   cases hc:cs[off+j]? with
   |none=>simp[hc]at hs
   |some c=>
    simp[hc]at hs;subst hs;have hj':off+j<vs.length:=by have:=(Xd.1 hc).1;omega
    rw[Xb hj',Qq];exact hp (h5 _ c _ hc (Xb hj'))
  exact .junk _
 |own k=>
  intro u hg;obtain⟨hρ,h1⟩:=hg.own_inv;simp only[zgG]
  split
  ·rename_i T α enc sz xs hk;have hmem:=hlm k _ hk;exact zjv hm hmem (λb hb=>.inl hb) (λv b hv hb hk=>(hm.old b ⟨k,_,v,hmem,hv,hb⟩).2 hk) hρ
  exact .junk _
 |ptr cs _=>intro u _;exact .junk _
 |eloc _ _ _ _=>intro u _;exact .junk _
 |win _ _ _ _=>intro u _;exact .junk _
 |tup cs _=>intro u _;exact .junk _
 |junk=>intro u _;exact .junk _
 |nil=>rename_i vs _ j s v h _;simp[zgG.frzs]at h
 |cons c cs ihc ihcs=>
  rename_i vs hg j s v h hv;obtain⟨v0,vs',rfl,h1,h2⟩:=hg.cons_inv
  cases j with
  |zero=>simp[zgG.frzs]at h hv;subst h;subst hv;exact ihc h1
  |succ j=>exact ihcs h2 j s v (by simpa[zgG.frzs] using h) (by simpa using hv)
def zmF(hlm:∀k m,lm k=some m->(k,m)∈M)(hm:zL Keep M ρ w):∀(n:Nat) {s:SV} {v:Value},G (λb=>Keep b∨Own M ρ b) (Own M ρ) ρ w s v->D Keep w (frz lm n s) v
 |0,s,_,h=>zyj hlm hm (λ_=>.junk _) s h
 |n+1,s,_,h=>zyj hlm hm (λh=>zmF hlm hm n h) s h
end
section
def endF(n:Nat)(Γ:LS)(rs:List ResultVar)(r:SV)(e:Ex)(σ:St):Prop:=
 match e with
 |.exit _=>False
 |_=>zbS σ Γ rs λs=>LE (ziK (zU σ.M) n s) r
variable{P:Program}{Γ:LS}{f:FuncId}{fn:Func}{c:Code}{r:SV}
def uY(n:Nat)(hT:TOK P Γ)(hm:P.follows .mixedOrders=true){args:LR}(hf:P.funcs[f]?=some fn)(hb:fn.body=some c)(hn:(fn.name== "runtime.NumGoroutine")=false) (hle:Nat.ble args.length fn.ntmps=true)
  (h:jI P Γ c ⟨jJ 0 args,[],0,fn.ntmps,0⟩ (endF n Γ fn.results.toList r)):qx P f args [] r []:=by
 refine zaS hT hm hf hb hn hle h (λe σ h=>⟨σ,.refl,h⟩) (λe σ hq he=>?_) (λid σ hq=>hq)
 have hq:zbS σ Γ fn.results.toList λs=>LE (ziK (zU σ.M) n s) r:=by
  cases e with
  |exit id=>exact absurd rfl (he id)
  |normal=>exact hq
  |ret=>exact hq
 obtain⟨s,hle,h1⟩:=yk hT hq;refine⟨s,h1,λ{E ρ a w v} hr hW _ hg=>⟨ρ,?_,?_,?_⟩⟩
 ·have hs:=hr.stp;exact⟨hs.os,hs.tape,hs.output,hs.size,λb hb hn=>hs.block b hb λh=>hn ((hW b).1 h),λb hb=>absurd hb zP,hs.rho⟩
 ·exact(qt hr.mem.kp λ_ _ h=>hr.mem.glc h)
 have hd:∀{s:SV} {v:Value},G (λb=>E.Keep b∨Own σ.M ρ b) (Own σ.M ρ) ρ w s v->D (λb=>E.Keep b∨Own [] ρ b) w (frz (zU σ.M) n s) v:=λh=>
  (zmF (λk m h=>zA h) hr.mem n h).less λb hb=>hb.resolve_right zP
 refine hle _ _ _ _ _ ?_;unfold ziK
 split
 ·rename_i cs;obtain⟨vs,rfl,hvs⟩:=hg.tup_inv;refine .tup _ vs (by rw[Xx];exact hvs.1) λj s v hs hv=>?_
  rw[XD]at hs
  cases hc:cs[j]? with
  |none=>simp[hc]at hs
  |some c=>
   simp[hc]at hs;subst hs;exact .d _ _ (hd (hvs.2 j c v hc hv))
 exact .d _ _ (hd hg)
def ziy(n:Nat)(hT:TOK P Γ)(hm:P.follows .mixedOrders=true){args:LR}{M:LT}(hf:P.funcs[f]?=some fn)(hb:fn.body=some c)(hn:(fn.name== "runtime.NumGoroutine")=false) (hle:Nat.ble args.length fn.ntmps=true)
  (h:jI P Γ c ⟨jJ 0 args,M,M.length,fn.ntmps,M.length⟩ (endF n Γ fn.results.toList r)):qx P f args M r []:=by
 refine zaS hT hm hf hb hn hle h (λe σ h=>⟨σ,.refl,h⟩) (λe σ hq he=>?_) (λid σ hq=>hq)
 have hq:zbS σ Γ fn.results.toList λs=>LE (ziK (zU σ.M) n s) r:=by
  cases e with
  |exit id=>exact absurd rfl (he id)
  |normal=>exact hq
  |ret=>exact hq
 obtain⟨s,hle,h1⟩:=yk hT hq;refine⟨s,h1,λ{E ρ a w v} hr hW _ hg=>⟨ρ,?_,?_,?_⟩⟩
 ·have hs:=hr.stp;exact⟨hs.os,hs.tape,hs.output,hs.size,λb hb hn=>hs.block b hb λh=>hn ((hW b).1 h),λb hb=>absurd hb zP,hs.rho⟩
 ·exact(qt hr.mem.kp λ_ _ h=>hr.mem.glc h)
 have hd:∀{s:SV} {v:Value},G (λb=>E.Keep b∨Own σ.M ρ b) (Own σ.M ρ) ρ w s v->D (λb=>E.Keep b∨Own [] ρ b) w (frz (zU σ.M) n s) v:=λh=>
  (zmF (λk m h=>zA h) hr.mem n h).less λb hb=>hb.resolve_right zP
 refine hle _ _ _ _ _ ?_;unfold ziK
 split
 ·rename_i cs;obtain⟨vs,rfl,hvs⟩:=hg.tup_inv;refine .tup _ vs (by rw[Xx];exact hvs.1) λj s v hs hv=>?_
  rw[XD]at hs
  cases hc:cs[j]? with
  |none=>simp[hc]at hs
  |some c=>
   simp[hc]at hs;subst hs;exact .d _ _ (hd (hvs.2 j c v hc hv))
 exact .d _ _ (hd hg)
structure yj (F:Fence):Prop where
 fn:∀f,F.fn f
 depth:F.depth=none
 alive:F.alive=false
def yj.wide:yj Fence.wide:=⟨λ_=>trivial,rfl,rfl⟩
def yj.inRound{F:Fence}(h:yj F)(l:Nat):yj (F.inRound l):=⟨h.fn,h.depth,h.alive⟩
def yj.room{F:Fence}(h:yj F)(n:Nat):F.room n:=λd hd=>by rw[h.depth]at hd;cases hd
def yj.fenced{F:Fence}(h:yj F)(P:Program)(m:Machine):m.fenced P F:=by
 intro g _;exact⟨λha=>(by rw[h.alive]at ha;cases ha),.inl (h.fn _),λf _=>h.fn f,h.room _⟩
variable{F:Fence}{m:Machine}{m':Machine}
def yj.steps(h:yj F)(hs:Steps P m m'):StepsIn (Machine.fenced P F) P m m':=
 (StepsIn.of_steps hs).mono λm _=>h.fenced P m
def yj.comes(h:yj F){e:Ending}(hs:Comes P m m' e):ComesIn (Machine.fenced P F) P m m' e:=by
 cases e with
 |returned v=>exact h.steps hs
 |panicked c=>exact h.steps hs
 |outgrown=>exact hs
def yj.calls(h:yj F){n:Nat}{args:Array Value}{w:World}{R:Ending->World->Prop}(hc:Calls P f args w R):CallsIn F n P f args w R:=
 ⟨h.fn f,λcs _=>let ⟨e,w',fr,r,s,x⟩:=hc cs;⟨e,w',fr,r,h.comes s,x⟩⟩
def yj.rows(h:yj F){n:Nat}{row:String}{args:Array Value}{w:World}{R:Value->World->Prop}(hc:Go.Rows P row args w R):RowsIn F n P row args w R:=
 λc cs _=>let ⟨v,w',r,s⟩:=hc c cs;⟨v,w',r,h.steps s⟩
def yj.need(h:yj F){n:Nat}:F.depth.isSome=true->1<=n:=λhd=>by rw[h.depth]at hd;cases hd
variable{a:Act}{Q:LF}
def yj.op(h:yj F){n:Nat}{o:Oper}{w:World}{K:LG}(hd:∀c,o.op≠.defer c)(hw:o.wp P a w K Q):o.wpIn F n P a w K Q:=by
 refine⟨λf _=>h.fn f,?_⟩;rw[Oper.semAt_eq _ _ _ hd];unfold Oper.wp at hw;generalize (execOp a.eval o).run P w=r at*
 cases r with
 |ok x w'=>
  cases x <;> simp only[Oper.upon,Oper.uponIn]at hw ⊢
  case value=>exact hw
  case skip=>exact hw
  case defer=>exact hw
  case enter=>exact⟨h.need,(h.calls hw).mono λe w'' he=>by cases e <;> exact he⟩
  case row=>exact⟨h.need,h.rows hw⟩
 |halt x w'=>cases x <;> simp only[Oper.upon,Oper.uponIn]at hw ⊢;exact hw
def zqk(o:Oper):Bool:=match o.op with|.defer _=>false|_=>true
def zfH{o:Oper}(h:zqk o=true):∀c,o.op≠.defer c:=λc e=>by unfold zqk at h;rw[e]at h;cases h
def yX(l:List Oper):Bool:=l.all zqk
def zkG{l:List Oper}(h:yX l=true){o:Oper}(ho:o∈l):∀c,o.op≠.defer c:=zfH (XQ.1 h o ho)
def yj.list{F:Fence}(h:yj F){n:Nat}{P:Program}{ops:Array Oper}{Q:LF}(hQ:∀a w,¬Q .outgrown a w):∀{l:List Oper} {a:Act} {w:World},yX l=true->
  wpList P ops Q l a w->wpListIn F n P ops Q l a w
 |[],_,_,_,hw=>hw
 |o::r,a,w,hd,hw=>by
  have hd':zqk o=true/\yX r=true:=by unfold yX at hd ⊢;rw[Yw,XC]at hd;exact hd
  unfold wpList at hw;unfold wpListIn
  split
  ·rename_i hwt;rw[Xe hwt]at hw;have hw:=hw.resolve_right λk=>by obtain⟨_,a',w',k⟩:=k;exact hQ _ _ k
   exact h.op (zfH hd'.1) (Oper.wp_mono (λa w hk=>h.list hQ hd'.2 hk) hw)
  rename_i hwt;rw[Xc hwt]at hw;exact⟨λf _=>h.fn f,h.list hQ hd'.2 hw⟩
def yj.any{F:Fence}(h:yj F){n:Nat}{P:Program}{md:Region.Mode}{ops:Array Oper}{Q:LF}(hQ:∀a w,¬Q .outgrown a w)(hd:yX ops.toList=true):
  ∀{fuel:Nat} {listed:Array Bool} {a:Act} {w:World},wpAny P md ops Q fuel listed a w->wpAnyIn F n P md ops Q fuel listed a w
 |0,_,_,_,hw=>hw
 |fuel+1,listed,a,w,hw=>by
  refine⟨hw.1,λi hi=>?_⟩;have:=hw.2 i hi;unfold wpOp at this;unfold wpOpIn
  cases ho:ops[i]? with
  |none=>rw[ho]at this;exact h.any hQ hd this
  |some o=>
   rw[ho]at this;dsimp only at this ⊢;have hdo:=zkG hd (o:=o) (by rw[Array.mem_toList_iff];exact Array.mem_of_getElem? ho)
   split
   ·rename_i hwt;rw[Xe hwt]at this;have:=this.resolve_right λk=>by obtain⟨_,a',w',k⟩:=k;exact hQ _ _ k
    exact h.op hdo (Oper.wp_mono (λa w hk=>h.any hQ hd hk) this)
   rename_i hwt;rw[Xc hwt]at this;exact⟨λf _=>h.fn f,h.any hQ hd this⟩
def uZ:Code->Bool
 |.region _ ops _=>yX ops.toList
 |.seq x y=>uZ x&&uZ y
 |.cond _ x y=>uZ x&&uZ y
 |.block _ c=>uZ c
 |.loop c=>uZ c
 |.scope _=>false
 |_=>true
variable{E:Env}
def uS.grown{Q:LH}(a:Act)(w:World):¬uS E Q .outgrown a w:=λh=>h
def zmG(hF:yj F){n:Nat}(hT:TOK P Γ)(hm:P.follows .mixedOrders=true){id:Nat}{ops:Array Oper}{draw:Bool}{σ:St}{Q:LH}{ρ:zh}{w:World}(hd:yX ops.toList=true)(hr:Rel E σ ρ a w)(h:jI P Γ (.region id ops draw) σ Q):(Code.region id ops draw).wpIn F n P (uS E Q) a w:=by
 cases draw with
 |false=>
  have h:u4 P Γ false ops.toList ops.toList 0 σ (Q .normal):=h;refine wpIn_region_list (hF.list uS.grown hd ?_);have:=ziW (Q:=uS E Q) hT (λσ ρ a w h hr=>⟨σ,ρ,h,hr⟩) hr h
  simpa using this
 |true=>
  have h:Dr (vi ops.toList=true) (u4 P Γ true ops.toList ops.toList 0 σ (Q .normal)) (Ob (zfr ops.toList=true) (za2 P Γ ops.toList ops.toList 0 [] σ (Q .normal))):=h;refine wpIn_region_any hm (hF.any uS.grown hd ?_)
  obtain⟨h1,h2⟩|⟨h1,h2⟩:=h
  ·exact zdw hT hr h1 h2 λσ ρ a w h hr=>⟨σ,ρ,h,hr⟩
  exact zgf hT hr h1 h2 λσ ρ a w h hr=>⟨σ,ρ,h,hr⟩
def zax{n:Nat}{w:World}(I:Nat->LG)(n₀:Nat)(h₀:I n₀ a w)(round:∀m a w,I m a w->c.wpIn F n P (Exit.then (λa' w'=>∃m',m'<m/\I m' a' w') Q) a w):(Code.loop c).wpIn F n P Q a w:=by
 refine wpIn_loop (λa w=>∃m,I m a w) (λa w=>leastOf (λm=>I m a w)) ⟨n₀,h₀⟩ λa w hI=>wpIn_mono (round _ a w (leastOf_spec hI).1) λe a' w' hq=>?_
 cases e with
 |normal=>
  obtain⟨m',hlt,hI'⟩:=hq;exact show(∃m,I m a' w')/\leastOf (λm=>I m a' w')<leastOf (λm=>I m a w) from⟨⟨m',hI'⟩,K4 ((leastOf_spec ⟨m',hI'⟩).2 m' hI') hlt⟩
 |exit id=>exact hq
 |goto l=>exact hq
 |ret=>exact hq
 |panic ch=>exact hq
 |outgrown=>exact hq
def uN{F:Fence}(hF:yj F){n:Nat}{P:Program}{Γ:LS}(hT:TOK P Γ)(hm:P.follows .mixedOrders=true){E:Env}:∀(c:Code) {σ:St} {Q:LH} {ρ:zh} {a:Act} {w:World},
  uZ c=true->Rel E σ ρ a w->jI P Γ c σ Q->c.wpIn F n P (uS E Q) a w
 |.skip,σ,Q,ρ,a,w,_,hr,h=>wpIn_skip ⟨σ,ρ,h,hr⟩
 |.region id ops draw,σ,Q,ρ,a,w,hd,hr,h=>zmG hF hT hm hd hr h
 |.seq x y,σ,Q,ρ,a,w,hd,hr,h=>by
  have hd:uZ x=true/\uZ y=true:=by unfold uZ at hd;rwa [XC]at hd
  refine wpIn_seq (wpIn_mono (uN hF hT hm x hd.1 hr h) (λe a' w' hq=>?_))
  cases e with
  |normal=>obtain⟨σ',ρ',h',hr'⟩:=hq;exact uN hF hT hm y hd.2 hr' h'
  |exit id=>exact hq
  |ret=>exact hq
  |_=>exact hq.elim
 |.cond c x y,σ,Q,ρ,a,w,hd,hr,h=>by
  have hd:uZ x=true/\uZ y=true:=by unfold uZ at hd;rwa [XC]at hd
  obtain⟨s,h,hs⟩:=zcy h;have hg:=hs (a:=a) (λt s _ hl=>(hr.regs t s hl).2)
  split at h
  ·exact wpIn_cond_true hg.val_inv (uN hF hT hm x hd.1 hr h)
  ·exact wpIn_cond_false hg.val_inv (uN hF hT hm y hd.2 hr h)
  ·rename_i p i
   by_cases hp:p
   ·exact wpIn_cond_true (by rw[hg.pr_inv];simp[hp]) (uN hF hT hm x hd.1 hr (h.yes hp))
   exact wpIn_cond_false (by rw[hg.pr_inv];simp[hp]) (uN hF hT hm y hd.2 hr (h.no hp))
  ·obtain⟨b,hb⟩:=hg.anyb_inv
   cases b with
   |true=>exact wpIn_cond_true hb (uN hF hT hm x hd.1 hr h.yes)
   |false=>exact wpIn_cond_false hb (uN hF hT hm y hd.2 hr h.no)
  exact h.elim
 |.block id c,σ,Q,ρ,a,w,hd,hr,h=>by
  refine wpIn_block (wpIn_mono (uN hF hT hm c hd hr h) (λe a' w' hq=>?_))
  cases e with
  |normal=>exact hq
  |exit j=>
   obtain⟨σ',ρ',h',hr'⟩:=hq;dsimp only at h';show(if j=id then uS E Q .normal a' w' else uS E Q (.exit j) a' w')
   split at h'
   ·rename_i hb;rw[Xe (Xj hb)];exact⟨σ',ρ',h',hr'⟩
   rename_i hb;rw[Xc (KF hb)];exact⟨σ',ρ',h',hr'⟩
  |ret=>exact hq
  |_=>exact hq.elim
 |.loop c,σ,Q,ρ,a,w,hd,hr,h=>by
  obtain⟨ι,S,I,μ,x0,h0,hsub,hround⟩:=h;obtain⟨ρ0,hr0⟩:=hsub E ρ a w hr;refine zax (λn a w=>∃x ρ,I x/\μ x=n/\Rel E (S x) ρ a w) (μ x0) ⟨x0,ρ0,h0,rfl,hr0⟩ λn a w hI=>?_
  obtain⟨x,ρ1,h1,rfl,hr1⟩:=hI;refine wpIn_mono (uN hF hT hm c hd hr1 (hround x h1)) (λe a' w' hq=>?_)
  cases e with
  |normal=>
   obtain⟨σ',ρ',⟨x',h2,hs2,hlt⟩,hr'⟩:=hq;obtain⟨ρ2,hr2⟩:=hs2 E ρ' a' w' hr';exact⟨μ x',hlt,x',ρ2,h2,rfl,hr2⟩
  |exit id=>exact hq
  |ret=>exact hq
  |_=>exact hq.elim
 |.exit id,σ,Q,ρ,a,w,_,hr,h=>wpIn_exit ⟨σ,ρ,h,hr⟩
 |.ret,σ,Q,ρ,a,w,_,hr,h=>wpIn_ret ⟨σ,ρ,h,hr⟩
 |.rangeFunc _ _ _ _,_,_,_,_,_,_,_,h=>by cases h
 |.scope _,_,_,_,_,_,hd,_,_=>by cases hd
 |.label _,σ,Q,ρ,a,w,_,hr,h=>wpIn_label ⟨σ,ρ,h,hr⟩
 |.goto _,_,_,_,_,_,_,_,h=>by cases h
 |.refuse _,_,_,_,_,_,_,_,h=>by cases h
end
end Go.Gs
