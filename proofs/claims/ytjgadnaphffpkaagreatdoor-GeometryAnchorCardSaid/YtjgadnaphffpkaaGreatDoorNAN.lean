/- How many pieces a curve is cut into, both texts. -/
import Derived.Test.YtjgadnaphffpkaaGreatDoorNA
import Derived.Test.YtjgadnaphffpkaaGreatDoorNAM
import Derived.Test.YtjgadnaphffpkaaGreatDoorNAG
import Derived.RangeFuncRecord
import Derived.OrdersIn
import Derived.TacticsIn
import Derived.RangeFuncBox
set_option maxRecDepth 100000
set_option maxHeartbeats 8000000
set_option linter.all false
namespace Go.Gs
open Go.Proofs
theorem zaS{a b c:Int}(ha: -1048576<=a/\a<=1048576)(hb: -1048576<=b/\b<=1048576)(hc: -1048576<=c/\c<=1048576):
  (-4194304<=a - 2*b+c/\a - 2*b+c<=4194304)/\0<=(a - 2*b+c)*(a - 2*b+c)/\(a - 2*b+c)*(a - 2*b+c)<=17592186044416:=by
 have h: -4194304<=a - 2*b+c/\a - 2*b+c<=4194304:=oM;have h1:=jA (A:=4194304) (B:=4194304) h h;have h2:=jn (a - 2*b+c);omega
theorem vV{a b c:Pt}(ha:zn a)(hb:zn b)(hc:zn c):0<=yA a b c/\yA a b c<=35184372088832:=by
 have h1:=zaS ha.1 hb.1 hc.1;have h2:=zaS ha.2 hb.2 hc.2;unfold yA;omega
theorem zkn(a b c:Pt)(ha:zn a)(hb:zn b)(hc:zn c):CG0 335 [.agg (ptE a),.agg (ptE b),.agg (ptE c)] [] (i64 (yA a b c)) []:=by
 have h1:=zaS ha.1 hb.1 hc.1;have h2:=zaS ha.2 hb.2 hc.2;unfold zn at ha hb hc;refine zc Tryz.func335 ?_;refine Dr.k ?_;(iterate 9 refine Ar.o ?_);exact .refl
theorem zrW(a b c:Pt)(ha:zn a)(hb:zn b)(hc:zn c):CG0 385 [.agg (ptE a),.agg (ptE b),.agg (ptE c)] [] (i64 (yA a b c)) []:=by
 have h1:=zaS ha.1 hb.1 hc.1;have h2:=zaS ha.2 hb.2 hc.2;unfold zn at ha hb hc;refine zc Tryz.func385 ?_;(iterate 9 refine Ar.o ?_);exact .refl
theorem zfr{need tol:Int}{i:Nat}(h:i<=64):yH need tol (65 - i) i=if enough need tol i then((i:Int),0) else yH need tol (65 - (i+1)) (i+1):=by
 rw[show 65 - i=(64 - i)+1 by omega,yH,show 65 - (i+1)=64 - i by omega]
theorem zfs{i:Nat}{tol:Int}(hi:i<=64)(ht:1<=tol/\tol<=256):
  (-65536<=16*(i:Int)*i/\16*(i:Int)*i<=65536)/\(-4194304<=16*(i:Int)*i*i/\16*(i:Int)*i*i<=4194304)/\
  (-268435456<=16*(i:Int)*i*i*i/\16*(i:Int)*i*i*i<=268435456)/\(-68719476736<=16*(i:Int)*i*i*i*tol/\16*(i:Int)*i*i*i*tol<=68719476736)/\
  (-17592186044416<=16*(i:Int)*i*i*i*tol*tol/\16*(i:Int)*i*i*i*tol*tol<=17592186044416):=by
 have h2:=jA (A:=1024) (B:=64) (a:=16*(i:Int)) (b:=i) oM oM;have h3:=jA (A:=65536) (B:=64) (a:=16*(i:Int)*i) (b:=i) oM oM;have h4:=jA (A:=4194304) (B:=64) (a:=16*(i:Int)*i*i) (b:=i) oM oM;have h5:=jA (A:=268435456) (B:=256) (a:=16*(i:Int)*i*i*i) (b:=tol) oM oM;have h6:=jA (A:=68719476736) (B:=256) (a:=16*(i:Int)*i*i*i*tol) (b:=tol) oM oM;omega
def zie(c:Int×Int):SV:=.tup [i64 c.1,i64 c.2]
theorem uy{c:Int×Int}{a b:Int}(h:c=(a,b)):LE (.tup [i64 a,i64 b]) (zie c):=by subst h;exact .refl
theorem zpX(need tol:Int)(l:List Pt)(hl:l.length<=4):CG0 334 [i64 need,i64 tol,.sl ptE l] [] (zie (k7 need tol l)) []:=by
 refine zc Tryz.func334 ?_;have bad:¬(1<=tol/\tol<=256)->k7 need tol l=(0,2):=λh=>by unfold k7;rw[if_pos h]
 refine⟨λa1=>uy (bad (λh=>by have a1:tol < 1:=a1;omega)),λa1=>?_⟩;refine⟨λa2=>uy (bad (λh=>by have a2:256 < tol:=a2;omega)),λa2=>?_⟩;have ht:1<=tol/\tol<=256:=⟨by have a1:¬tol < 1:=a1;omega,by have a2:¬256 < tol:=a2;omega⟩;intro hl2;refine⟨Nat,λi=>⟨[(0,i64 need),(1,i64 tol),(17,.sl ptE l),(18,i64 (l.length:Int)),(19,i64 (i:Int))],[],0,46,0⟩,λi=>i<=l.length/\∀p∈l.take i,zn p,λi=>l.length - i,0,?_,?_,?_⟩
 ·exact⟨Xe _,λp hp=>by cases hp⟩
 ·exact zE []
 rintro i ⟨h1,h2⟩
 refine⟨λg=>?_,λg=>?_⟩
 ·have g:(i:Int) < l.length:=g;refine Ob.o ?_;intro x hx;have hx:l[i]? =some x:=hx;refine zb.t (qh x)<|⟨λb=>?_,λb=>?_⟩
  ·refine uy ?_;unfold k7;rw[kQ ht,if_pos (λk=>b (k x (Xd hx)))]
  ·have b:=Xa.1 b;refine Ar.o<|⟨i+1,⟨oM,λp hp=>?_⟩,zE [],by dsimp only;omega⟩;rw[Xm,hx]at hp
   rcases Xo.1 hp with hp | hp
   ·exact h2 p hp
   ·simp at hp;rw[hp];exact b
 have g:¬(i:Int) < l.length:=g;have hv:∀p∈l,zn p:=by rw[Xf oM]at h2;exact h2
 have e:k7 need tol l=yH need tol 64 1:=by unfold k7;rw[kQ ht,kQ hv]
 refine⟨Nat,λi=>⟨[(0,i64 need),(1,i64 tol),(10,i64 (i:Int))],[],0,46,0⟩,λi=>1<=i/\i<=65/\yH need tol (65 - i) i=yH need tol 64 1,λi=>65 - i,1,?_,?_,?_⟩
 ·exact⟨dC,dC,rfl⟩
 ·exact zE []
 rintro i ⟨h3,h4,h5⟩
 refine⟨λg=>?_,λg=>?_⟩
 ·have g:(i:Int)<=64:=g;have ch:=zfs (i:=i) oM ht;have st:=zfr (need:=need) (tol:=tol) (i:=i) oM;rw[h5]at st;(iterate 6 refine Ar.o ?_);refine⟨λk=>?_,λk=>?_⟩
  ·have k:enough need tol i:=k;exact uy (by rw[e,st,if_pos k])
  ·have k:¬enough need tol i:=k;refine Ar.o ?_;refine⟨i+1,⟨oM,oM,by rw[st,if_neg k]⟩,zE [],by dsimp only;omega⟩
 ·have g:¬(i:Int)<=64:=g;have h6:i=65:=oM;subst h6;exact uy (by rw[e,← h5];rfl)
theorem zxK(tol:Int):CG0 118 [i64 tol] [] (pr (zeZ tol)) []:=by
 refine zc Tryz.func118 ?_;refine⟨λh=>?_,λh=>zd (λk=>h k.1)⟩;exact zF ⟨λk=>⟨h,k⟩,λk=>k.2⟩
theorem znP(l:List Pt):CG0 352 [.sl ptE l] [] (pr (∀p∈l,zn p)) []:=by
 refine zc Tryz.func352 ?_;refine⟨Nat,λi=>⟨[(0,.sl ptE l),(3,i64 (i:Int))],[],0,16,0⟩,λi=>i<=l.length/\∀p∈l.take i,zn p,λi=>l.length - i,0,?_,?_,?_⟩
 ·exact⟨Xe _,λp hp=>by cases hp⟩
 ·exact zE []
 rintro i ⟨h1,h2⟩
 intro hl1;refine⟨λg=>?_,λg=>?_⟩
 ·have g:(i:Int) < l.length:=g;refine Ob.o ?_;intro x hx;have hx:l[i]? =some x:=hx;refine zb.t (kK x)<|⟨λb=>zd λk=>b (k x (Xd hx)),λb=>?_⟩;have b:=Xa.1 b;refine Ar.o<|⟨i+1,⟨oM,λp hp=>?_⟩,zE [],by dsimp only;omega⟩;rw[Xm,hx]at hp
  rcases Xo.1 hp with hp | hp
  ·exact h2 p hp
  ·simp at hp;rw[hp];exact b
 ·have g:¬(i:Int) < l.length:=g;rw[Xf oM]at h2;exact zR h2
theorem zzX(a b c:Pt)(tol:Int):CG0 350 [.sl ptE [a,b,c],i64 tol,i64 1] [] (zie (k7 (1*(yA a b c)) tol [a,b,c])) []:=by
 refine zc Tryz.func350 ?_;refine zb.t (zxK tol)<|⟨λa1=>uy (by unfold k7;rw[if_pos (show ¬(1<=tol/\tol<=256) from a1)]),λa1=>?_⟩;have ht:1<=tol/\tol<=256:=Xa.1 a1;refine zb.t (znP [a,b,c])<|⟨λa2=>uy (by unfold k7;rw[kQ ht,if_pos a2]),λa2=>?_⟩;have hv:∀p∈[a,b,c],zn p:=Xa.1 a2;have e:k7 (1*(yA a b c)) tol [a,b,c]=yH (1*(yA a b c)) tol 64 1:=by unfold k7;rw[kQ ht,kQ hv]
 have ha:=hv a (by simp);have hb:=hv b (by simp);have hc:=hv c (by simp);have r1:=vV ha hb hc;refine Dr.k<|Ob.mk (by show(0:Int)<=0/\(0:Int) < (3:Nat);decide) ?_;intro x hx
 cases (show some a=some x from hx)
 refine Ob.mk (by show(0:Int)<=1/\(1:Int) < (3:Nat);decide) ?_;intro x hx
 cases (show some b=some x from hx)
 refine Ob.mk (by show(0:Int)<=2/\(2:Int) < (3:Nat);decide) ?_;intro x hx
 cases (show some c=some x from hx)
 refine zb.t (zrW a b c ha hb hc) ?_;intro hl;refine⟨λk=>absurd k (by show ¬(3:Int) < (3:Nat);decide),λ_=>?_⟩;generalize hD:yA a b c=D at*;have rD:0<=D/\D<=35184372088832:=oM;refine⟨Nat,λi=>⟨[(1,i64 tol),(2,i64 1),(8,i64 D),(9,i64 (i:Int))],[],0,62,0⟩,λi=>1<=i/\i<=65/\yH (1*D) tol (65 - i) i=yH (1*D) tol 64 1,λi=>65 - i,1,?_,?_,?_⟩
 ·exact⟨dC,dC,rfl⟩
 ·exact zE []
 rintro i ⟨h3,h4,h5⟩
 refine⟨λg=>?_,λg=>?_⟩
 ·have g:(i:Int)<=64:=g;have ch:=zfs (i:=i) oM ht;have st:=zfr (need:=1*D) (tol:=tol) (i:=i) oM;rw[h5]at st;(iterate 7 refine Ar.o ?_);refine⟨λk=>?_,λk=>?_⟩
  ·have k:enough (1*D) tol i:=k;exact uy (by rw[e,st,if_pos k])
  ·have k:¬enough (1*D) tol i:=k;refine Ar.o ?_;refine⟨i+1,⟨oM,oM,by rw[st,if_neg k]⟩,zE [],by dsimp only;omega⟩
 ·have g:¬(i:Int)<=64:=g;have h6:i=65:=oM;subst h6;exact uy (by rw[e,← h5];rfl)
theorem zzY(a b c d:Pt)(tol:Int):CG0 350 [.sl ptE [a,b,c,d],i64 tol,i64 9] [] (zie (k7 (9*(max (yA a b c) (yA b c d))) tol [a,b,c,d])) []:=by
 refine zc Tryz.func350 ?_;refine zb.t (zxK tol)<|⟨λa1=>uy (by unfold k7;rw[if_pos (show ¬(1<=tol/\tol<=256) from a1)]),λa1=>?_⟩;have ht:1<=tol/\tol<=256:=Xa.1 a1;refine zb.t (znP [a,b,c,d])<|⟨λa2=>uy (by unfold k7;rw[kQ ht,if_pos a2]),λa2=>?_⟩;have hv:∀p∈[a,b,c,d],zn p:=Xa.1 a2;have e:k7 (9*(max (yA a b c) (yA b c d))) tol [a,b,c,d]=yH (9*(max (yA a b c) (yA b c d))) tol 64 1:=by unfold k7;rw[kQ ht,kQ hv]
 have ha:=hv a (by simp);have hb:=hv b (by simp);have hc:=hv c (by simp);have hd:=hv d (by simp);have r1:=vV ha hb hc;have r2:=vV hb hc hd;refine Dr.k<|Ob.mk (by show(0:Int)<=0/\(0:Int) < (4:Nat);decide) ?_;intro x hx
 cases (show some a=some x from hx)
 refine Ob.mk (by show(0:Int)<=1/\(1:Int) < (4:Nat);decide) ?_;intro x hx
 cases (show some b=some x from hx)
 refine Ob.mk (by show(0:Int)<=2/\(2:Int) < (4:Nat);decide) ?_;intro x hx
 cases (show some c=some x from hx)
 refine zb.t (zrW a b c ha hb hc) ?_;intro hl;refine⟨λ_=>?_,λk=>absurd (show(3:Int) < (4:Nat) by decide) k⟩;refine Dr.k<|Ob.mk (by show(0:Int)<=1/\(1:Int) < (4:Nat);decide) ?_;intro x hx
 cases (show some b=some x from hx)
 refine Ob.mk (by show(0:Int)<=2/\(2:Int) < (4:Nat);decide) ?_;intro x hx
 cases (show some c=some x from hx)
 refine Ob.mk (by show(0:Int)<=3/\(3:Int) < (4:Nat);decide) ?_;intro x hx
 cases (show some d=some x from hx)
 refine zb.t (zrW b c d hb hc hd) ?_;generalize hD:max (yA a b c) (yA b c d)=D at*;have rD:0<=D/\D<=35184372088832:=oM;refine⟨Nat,λi=>⟨[(1,i64 tol),(2,i64 9),(8,i64 D),(9,i64 (i:Int))],[],0,62,0⟩,λi=>1<=i/\i<=65/\yH (9*D) tol (65 - i) i=yH (9*D) tol 64 1,λi=>65 - i,1,?_,?_,?_⟩
 ·exact⟨dC,dC,rfl⟩
 ·exact jL [] ⟨rfl,rfl,congrArg (λq=>some (i64 q)) hD,rfl,trivial⟩ trivial
 rintro i ⟨h3,h4,h5⟩
 refine⟨λg=>?_,λg=>?_⟩
 ·have g:(i:Int)<=64:=g;have ch:=zfs (i:=i) oM ht;have st:=zfr (need:=9*D) (tol:=tol) (i:=i) oM;rw[h5]at st;(iterate 7 refine Ar.o ?_);refine⟨λk=>?_,λk=>?_⟩
  ·have k:enough (9*D) tol i:=k;exact uy (by rw[e,st,if_pos k])
  ·have k:¬enough (9*D) tol i:=k;refine Ar.o ?_;refine⟨i+1,⟨oM,oM,by rw[st,if_neg k]⟩,zE [],by dsimp only;omega⟩
 ·have g:¬(i:Int)<=64:=g;have h6:i=65:=oM;subst h6;exact uy (by rw[e,← h5];rfl)
theorem zu0(a b c:Pt)(tol:Int)(ha:zn a)(hb:zn b)(hc:zn c):CG0 286 [.agg (ptE a++ptE b++ptE c),i64 tol] [] (zie (yc a b c tol)) []:=by
 refine zc Tryz.func286 ?_;refine zfa.data<|Dr.k ?_;have r1:=vV ha hb hc;refine zb.t (zkn a b c ha hb hc)<|⟨Pt,ptE,[a,b,c],rfl,Ob.o13 ?_⟩;exact zb.t (zpX (yA a b c) tol [a,b,c] (by show 3<=4;decide))<|.refl
theorem zu1(a b c:Pt)(tol:Int):CG0 300 [.agg (ptE a++ptE b++ptE c),i64 tol] [] (zie (yc a b c tol)) []:=by
 refine zc Tryz.func300 ?_;refine zfa.data<|⟨Pt,ptE,[a,b,c],rfl,Ob.o0 ?_⟩;have c0:=zzX a b c tol;rw[JT]at c0;exact zb.see 0 _ c0 rfl rfl rfl<|.refl
theorem zu2(a b c d:Pt)(tol:Int)(ha:zn a)(hb:zn b)(hc:zn c)(hd:zn d):CG0 291 [.agg (ptE a++ptE b++ptE c++ptE d),i64 tol] [] (zie (yd a b c d tol)) []:=by
 refine zc Tryz.func291 ?_;refine zfa.data<|Dr.k ?_;have r1:=vV ha hb hc;refine zb.t (zkn a b c ha hb hc) ?_;have r2:=vV hb hc hd;refine zb.t (zkn b c d hb hc hd)<|Ar.fit (by show -9223372036854775808<=9*max (yA a b c) (yA b c d)/\9*max (yA a b c) (yA b c d)<=9223372036854775807;omega)<|⟨Pt,ptE,[a,b,c,d],rfl,Ob.o13 ?_⟩;exact zb.t (zpX (9*max (yA a b c) (yA b c d)) tol [a,b,c,d] (by show 4<=4;decide))<|.refl
theorem zu3(a b c d:Pt)(tol:Int):CG0 302 [.agg (ptE a++ptE b++ptE c++ptE d),i64 tol] [] (zie (yd a b c d tol)) []:=by
 refine zc Tryz.func302 ?_;refine zfa.data<|⟨Pt,ptE,[a,b,c,d],rfl,Ob.o0 ?_⟩;have c0:=zzY a b c d tol;exact zb.see 0 _ c0 rfl rfl rfl<|.refl
theorem zxL(a b:Int)(ha: -8796093022208<=a/\a<=8796093022208)(hb:0 < b/\b<=1048576):CG0 339 [i64 a,i64 b] [] (i64 (zdJ a b)) []:=by
 have td:=tdm (m:=2*a+b) (n:=2*b) oM;have tr:=zjC (m:=2*a+b) (n:=2*b) oM ⟨oM,oM⟩;refine zc Tryz.func339 ?_;(iterate 3 refine Ar.o ?_);have e:zdJ a b=(2*a+b) / (2*b):=rfl;have tr2:=tr.2 oM;have tr1:=tr.1;clear tr;refine Dv.any (by omega:2*b≠0)<|Ar.fit tr1<|Dv.any (by omega:2*b≠0)<|⟨λk=>?_,λk=>?_⟩
 ·have k:(2*a+b).tmod (2*b) < 0:=k;exact Ar.fit (by unfold R64 at tr1;omega)<|zj (by rw[e];omega)
 ·have k:¬(2*a+b).tmod (2*b) < 0:=k;exact zj (by rw[e];omega)
theorem ziM(a b:Int)(ha: -8796093022208<=a/\a<=8796093022208)(hb:0 < b/\b<=1048576):CG0 353 [i64 a,i64 b] [] (i64 (zdJ a b)) []:=by
 have td:=tdm (m:=2*a+b) (n:=2*b) oM;have tr:=zjC (m:=2*a+b) (n:=2*b) oM ⟨oM,oM⟩;refine zc Tryz.func353 ?_;(iterate 3 refine Ar.o ?_);have e:zdJ a b=(2*a+b) / (2*b):=rfl;have tr2:=tr.2 oM;have tr1:=tr.1;clear tr;refine Dv.any (by omega:2*b≠0)<|Ar.fit tr1 ?_;(iterate 2 refine Ar.o ?_);refine⟨λk=>?_,λk=>?_⟩
 ·have k:2*a+b < 0:=k;(iterate 3 refine Ar.o ?_);refine Dv.any (by omega:2*b≠0)<|⟨λk2=>?_,λk2=>?_⟩
  ·have k2:¬(2*a+b).tmod (2*b)=0:=k2;exact Ar.fit (by unfold R64 at tr1;omega)<|zj (by rw[e];omega)
  ·have k2:(2*a+b).tmod (2*b)=0:=Xa.1 k2;exact zj (by rw[e];omega)
 ·have k:¬2*a+b < 0:=k;exact zj (by rw[e];omega)
theorem ztv(i n:Int):CG0 351 [i64 i,i64 n] [] (pr (1<=n/\n<=64/\0<=i/\i<=n)) []:=by
 refine zc Tryz.func351 ?_;refine⟨λh1=>?_,λh1=>zd (λk=>h1 k.1)⟩;refine⟨λh2=>?_,λh2=>zd (λk=>h2 k.2.1)⟩;refine⟨λh3=>?_,λh3=>zd (λk=>h3 k.2.2.1)⟩;exact zF ⟨λh4=>⟨h1,h2,h3,h4⟩,λh=>h.2.2.2⟩
theorem zxM(l:List Pt)(i n:Int)(hl:l.length<=4):CG0 337 [.sl ptE l,i64 i,i64 n] [] (pr (zpE l i n)) []:=by
 refine zc Tryz.func337 ?_;intro hl1;refine⟨Nat,λk=>⟨[(1,i64 i),(2,i64 n),(9,.sl ptE l),(10,i64 (l.length:Int)),(11,i64 (k:Int))],[],0,34,0⟩,λk=>k<=l.length/\∀p∈l.take k,zn p,λk=>l.length - k,0,?_,?_,?_⟩
 ·exact⟨Xe _,λp hp=>by cases hp⟩
 ·exact zE []
 rintro k ⟨h1,h2⟩
 refine⟨λg=>?_,λg=>?_⟩
 ·have g:(k:Int) < l.length:=g;refine Ob.o ?_;intro x hx;have hx:l[k]? =some x:=hx;refine zb.t (qh x)<|⟨λb=>zd λq=>b (q.1 x (Xd hx)),λb=>?_⟩;have b:=Xa.1 b;refine Ar.o<|⟨k+1,⟨oM,λp hp=>?_⟩,zE [],by dsimp only;omega⟩;rw[Xm,hx]at hp
  rcases Xo.1 hp with hp | hp
  ·exact h2 p hp
  ·simp at hp;rw[hp];exact b
 have g:¬(k:Int) < l.length:=g;have hv:∀p∈l,zn p:=by rw[Xf oM]at h2;exact h2
 refine⟨λh1=>?_,λh1=>zd (λk=>h1 k.2.1)⟩;refine⟨λh2=>?_,λh2=>zd (λk=>h2 k.2.2.1)⟩;refine⟨λh3=>?_,λh3=>zd (λk=>h3 k.2.2.2.1)⟩;exact zF ⟨λh4=>⟨hv,h1,h2,h3,h4⟩,λh=>h.2.2.2.2⟩
theorem znQ{k i n x y z:Int}(hk:0<=k/\k<=64)(hi:0<=i/\i<=64)(hn:1<=n/\n<=64)(hx: -1048576<=x/\x<=1048576)(hy: -1048576<=y/\y<=1048576)(hz: -1048576<=z/\z<=1048576):
  (-4096<=k*k/\k*k<=4096)/\(-4294967296<=k*k*x/\k*k*x<=4294967296)/\(-8192<=2*i*k/\2*i*k<=8192)/\(-8589934592<=2*i*k*y/\2*i*k*y<=8589934592)/\
  (-4096<=i*i/\i*i<=4096)/\(-4294967296<=i*i*z/\i*i*z<=4294967296)/\(0 < n*n/\n*n<=4096):=by
 have h1:=jA (A:=64) (B:=64) (a:=k) (b:=k) oM oM;have h2:=jA (A:=4096) (B:=1048576) (a:=k*k) (b:=x) oM oM;have h3:=jA (A:=128) (B:=64) (a:=2*i) (b:=k) oM oM;have h4:=jA (A:=8192) (B:=1048576) (a:=2*i*k) (b:=y) oM oM;have h5:=jA (A:=64) (B:=64) (a:=i) (b:=i) oM oM;have h6:=jA (A:=4096) (B:=1048576) (a:=i*i) (b:=z) oM oM;have h7:=jA (A:=64) (B:=64) (a:=n) (b:=n) oM oM;have h8:=Ja (show 0 < n by omega) (show 0 < n by omega);omega
theorem znR{k i n x y z u:Int}(hk:0<=k/\k<=64)(hi:0<=i/\i<=64)(hn:1<=n/\n<=64)(hx: -1048576<=x/\x<=1048576)(hy: -1048576<=y/\y<=1048576)(hz: -1048576<=z/\z<=1048576)(hu: -1048576<=u/\u<=1048576):
  ((-4096<=k*k/\k*k<=4096)/\(-262144<=k*k*k/\k*k*k<=262144)/\(-274877906944<=k*k*k*x/\k*k*k*x<=274877906944))/\
  ((-12288<=3*i*k/\3*i*k<=12288)/\(-786432<=3*i*k*k/\3*i*k*k<=786432)/\(-824633720832<=3*i*k*k*y/\3*i*k*k*y<=824633720832))/\
  ((-12288<=3*i*i/\3*i*i<=12288)/\(-786432<=3*i*i*k/\3*i*i*k<=786432)/\(-824633720832<=3*i*i*k*z/\3*i*i*k*z<=824633720832))/\
  ((-4096<=i*i/\i*i<=4096)/\(-262144<=i*i*i/\i*i*i<=262144)/\(-274877906944<=i*i*i*u/\i*i*i*u<=274877906944))/\((0 < n*n/\n*n<=4096)/\(0 < n*n*n/\n*n*n<=262144)):=by
 have h1:=jA (A:=64) (B:=64) (a:=k) (b:=k) oM oM;have h2:=jA (A:=4096) (B:=64) (a:=k*k) (b:=k) oM oM;have h3:=jA (A:=262144) (B:=1048576) (a:=k*k*k) (b:=x) oM oM;have h4:=jA (A:=192) (B:=64) (a:=3*i) (b:=k) oM oM;have h5:=jA (A:=12288) (B:=64) (a:=3*i*k) (b:=k) oM oM;have h6:=jA (A:=786432) (B:=1048576) (a:=3*i*k*k) (b:=y) oM oM;have h7:=jA (A:=192) (B:=64) (a:=3*i) (b:=i) oM oM;have h8:=jA (A:=12288) (B:=64) (a:=3*i*i) (b:=k) oM oM
 have h9:=jA (A:=786432) (B:=1048576) (a:=3*i*i*k) (b:=z) oM oM;have i1:=jA (A:=64) (B:=64) (a:=i) (b:=i) oM oM;have i2:=jA (A:=4096) (B:=64) (a:=i*i) (b:=i) oM oM;have i3:=jA (A:=262144) (B:=1048576) (a:=i*i*i) (b:=u) oM oM;have n1:=jA (A:=64) (B:=64) (a:=n) (b:=n) oM oM;have n2:=jA (A:=4096) (B:=64) (a:=n*n) (b:=n) oM oM;have n3:=Ja (show 0 < n by omega) (show 0 < n by omega);have n4:=Ja n3 (show 0 < n by omega);omega
theorem zmc(x y z k i n:Int)(hk:0<=k/\k<=64)(hi:0<=i/\i<=64)(hn:1<=n/\n<=64)(hx: -1048576<=x/\x<=1048576)(hy: -1048576<=y/\y<=1048576)(hz: -1048576<=z/\z<=1048576):
  CG0 338 [i64 x,i64 y,i64 z,.ptr [i64 k],.ptr [i64 i],.ptr [i64 n]] [] (i64 (zdJ (k*k*x+2*i*k*y+i*i*z) (n*n))) []:=by
 have t:=znQ hk hi hn hx hy hz;refine zc Tryz.func338 ?_;(iterate 10 refine Ar.o ?_);exact zb.t (zxL (k*k*x+2*i*k*y+i*i*z) (n*n) oM oM)<|.refl
theorem zmd{a b c:Pt}{i n:Int}(h:zpE [a,b,c] i n):yY a b c i n=⟨q1 i n a.x b.x c.x,q1 i n a.y b.y c.y⟩:=by
 unfold yY;rw[kQ h]
theorem zxN(a b c:Pt)(i n:Int):CG0 290 [.agg (ptE a++ptE b++ptE c),i64 i,i64 n] [] (.agg (ptE (yY a b c i n))) []:=by
 refine zc Tryz.func290 ?_;refine zfa.data<|Dr.k<|⟨Pt,ptE,[a,b,c],rfl,Ob.o13 ?_⟩;refine zb.t (zxM [a,b,c] i n (by show 3<=4;decide))<|⟨λh=>?_,λh=>?_⟩
 ·refine ue (show SV.agg (ptE zp)=_ from ?_);unfold yY;rw[if_pos h]
 have h:=Xa.1 h;obtain⟨hv,n1,n2,i1,i2⟩:=h;have ha:=hv a (by simp);have hb:=hv b (by simp);have hc:=hv c (by simp);exact Ar.o<|Dr.k<|zb.t (zmc a.x b.x c.x (n - i) i n oM oM oM ha.1 hb.1 hc.1)<|zb.t (zmc a.y b.y c.y (n - i) i n oM oM oM ha.2 hb.2 hc.2)<|ue (congrArg (λp=>SV.agg (ptE p)) (zmd ⟨hv,n1,n2,i1,i2⟩).symm)
theorem zxO(a b c:Pt)(i n:Int):CG0 301 [.agg (ptE a++ptE b++ptE c),i64 i,i64 n] [] (.agg (ptE (yY a b c i n))) []:=by
 refine zc Tryz.func301 ?_;refine zfa.data ?_
 have bad:¬zpE [a,b,c] i n->LE (.agg (ptE zp)) (.agg (ptE (yY a b c i n))):=λh=>by
  refine ue ?_;unfold yY;rw[if_pos h]
 refine zb.t (ztv i n)<|⟨λh=>bad λk=>h ⟨k.2.1,k.2.2.1,k.2.2.2.1,k.2.2.2.2⟩,λh=>?_⟩;refine⟨Pt,ptE,[a,b,c],rfl,Ob.o0 ?_⟩;refine zb.see 1 _ (znP [a,b,c]) rfl rfl rfl<|Br.mk (λh2=>bad λk=>h2 k.1) (λh2=>?_);obtain⟨n1,n2,i1,i2⟩:=Xa.1 h;have hv:=Xa.1 h2;have ha:=hv a (by simp);have hb:=hv b (by simp);have hc:=hv c (by simp);have t1:=znQ (k:=n - i) (i:=i) (n:=n) oM oM oM ha.1 hb.1 hc.1;have t2:=znQ (k:=n - i) (i:=i) (n:=n) oM oM oM ha.2 hb.2 hc.2;refine Ar.o ?_
 (iterate 19 refine Ar.o ?_);exact zb.t (ziM ((n - i)*(n - i)*a.x+2*i*(n - i)*b.x+i*i*c.x) (n*n) oM oM)<|Ar.o<|zb.t (ziM ((n - i)*(n - i)*a.y+2*i*(n - i)*b.y+i*i*c.y) (n*n) oM oM)<|ue (congrArg (λp=>SV.agg (ptE p)) (zmd ⟨hv,n1,n2,i1,i2⟩).symm)
theorem zme(x y z u k i n:Int)(hk:0<=k/\k<=64)(hi:0<=i/\i<=64)(hn:1<=n/\n<=64)(hx: -1048576<=x/\x<=1048576)(hy: -1048576<=y/\y<=1048576)(hz: -1048576<=z/\z<=1048576)(hu: -1048576<=u/\u<=1048576):
  CG0 340 [i64 x,i64 y,i64 z,i64 u,.ptr [i64 k],.ptr [i64 i],.ptr [i64 n]] [] (i64 (zdJ (k*k*k*x+3*i*k*k*y+3*i*i*k*z+i*i*i*u) (n*n*n))) []:=by
 have t:=znR hk hi hn hx hy hz hu;refine zc Tryz.func340 ?_;(iterate 19 refine Ar.o ?_);exact zb.t (zxL (k*k*k*x+3*i*k*k*y+3*i*i*k*z+i*i*i*u) (n*n*n) oM oM)<|.refl
theorem zmf{a b c d:Pt}{i n:Int}(h:zpE [a,b,c,d] i n):yZ a b c d i n=⟨c1 i n a.x b.x c.x d.x,c1 i n a.y b.y c.y d.y⟩:=by
 unfold yZ;rw[kQ h]
theorem zxP(a b c d:Pt)(i n:Int):CG0 293 [.agg (ptE a++ptE b++ptE c++ptE d),i64 i,i64 n] [] (.agg (ptE (yZ a b c d i n))) []:=by
 refine zc Tryz.func293 ?_;refine zfa.data<|Dr.k<|⟨Pt,ptE,[a,b,c,d],rfl,Ob.o13 ?_⟩;refine zb.t (zxM [a,b,c,d] i n (by show 4<=4;decide))<|⟨λh=>?_,λh=>?_⟩
 ·refine ue (show SV.agg (ptE zp)=_ from ?_);unfold yZ;rw[if_pos h]
 have h:=Xa.1 h;obtain⟨hv,n1,n2,i1,i2⟩:=h;have ha:=hv a (by simp);have hb:=hv b (by simp);have hc:=hv c (by simp);have hd:=hv d (by simp);exact Ar.o<|Dr.k<|zb.t (zme a.x b.x c.x d.x (n - i) i n oM oM oM ha.1 hb.1 hc.1 hd.1)<|zb.t (zme a.y b.y c.y d.y (n - i) i n oM oM oM ha.2 hb.2 hc.2 hd.2)<|ue (congrArg (λp=>SV.agg (ptE p)) (zmf ⟨hv,n1,n2,i1,i2⟩).symm)
theorem zxQ(a b c d:Pt)(i n:Int):CG0 303 [.agg (ptE a++ptE b++ptE c++ptE d),i64 i,i64 n] [] (.agg (ptE (yZ a b c d i n))) []:=by
 refine zc Tryz.func303 ?_;refine zfa.data ?_
 have bad:¬zpE [a,b,c,d] i n->LE (.agg (ptE zp)) (.agg (ptE (yZ a b c d i n))):=λh=>by
  refine ue ?_;unfold yZ;rw[if_pos h]
 refine zb.t (ztv i n)<|⟨λh=>bad λk=>h ⟨k.2.1,k.2.2.1,k.2.2.2.1,k.2.2.2.2⟩,λh=>?_⟩;refine⟨Pt,ptE,[a,b,c,d],rfl,Ob.o0 ?_⟩;refine zb.see 1 _ (znP [a,b,c,d]) rfl rfl rfl<|Br.mk (λh2=>bad λk=>h2 k.1) (λh2=>?_);obtain⟨n1,n2,i1,i2⟩:=Xa.1 h;have hv:=Xa.1 h2;have ha:=hv a (by simp);have hb:=hv b (by simp);have hc:=hv c (by simp);have hd:=hv d (by simp);have t1:=znR (k:=n - i) (i:=i) (n:=n) oM oM oM ha.1 hb.1 hc.1 hd.1
 have t2:=znR (k:=n - i) (i:=i) (n:=n) oM oM oM ha.2 hb.2 hc.2 hd.2;(iterate 32 refine Ar.o ?_)
 (iterate 5 refine Ar.o ?_);refine zb.t (ziM ((n - i)*(n - i)*(n - i)*a.x+3*i*(n - i)*(n - i)*b.x+3*i*i*(n - i)*c.x+i*i*i*d.x) (n*n*n) oM oM) ?_;(iterate 2 refine Ar.o ?_);exact zb.t (ziM ((n - i)*(n - i)*(n - i)*a.y+3*i*(n - i)*(n - i)*b.y+3*i*i*(n - i)*c.y+i*i*i*d.y) (n*n*n) oM oM)<|ue (congrArg (λp=>SV.agg (ptE p)) (zmf ⟨hv,n1,n2,i1,i2⟩).symm)
def zgq(prev:SV->SV)(lm:Nat->Option Mem):SV->SV
 |.loc k off=>(match lm k with
  | some (.box _ cs)=>.dptr ((cs.map prev).drop off)
  | _=>.junk)
 |.own k=>(match lm k with
  | some (.arr _ enc _ xs)=>.sl enc xs
  | _=>.junk)
 | .fn f cs=>.dfn f (frzs prev lm cs)
 | .agg cs=>.agg (frzs prev lm cs)
 | .ifc t s=>.ifc t (zgq prev lm s)
 | .val v=>.val v
 | .pr p i=>.pr p i
 | .sl enc xs=>.sl enc xs
 | .dptr cs=>.dptr cs
 | .dfn f cs=>.dfn f cs
 | .bm f cs=>.bm f cs
 | .op v=>.op v
 | .nils=>.nils
 | .anyb=>.anyb
 | .full enc xs=>.full enc xs
 | _=>.junk
 where
 frzs (prev:SV->SV) (lm:Nat->Option Mem):List SV->List SV
  | []=>[]
  | c::cs=>zgq prev lm c::frzs prev lm cs
def frz(lm:Nat->Option Mem):Nat->SV->SV
 | 0=>zgq (λ_=>.junk) lm
 | n+1=>zgq (frz lm n) lm
def ziu(lm:Nat->Option Mem)(n:Nat)(s:SV):SV:=
 match s with
 | .tup cs=>.tup (cs.map (frz lm n))
 | s=>frz lm n s
theorem zko(prev:SV->SV)(lm:Nat->Option Mem):∀cs,zgq.frzs prev lm cs=cs.map (zgq prev lm)
 | []=>rfl
 | c::cs=>by rw[zgq.frzs,zko prev lm cs];rfl
section
variable {Keep:Nat->Prop} {M:List (Nat×Mem)} {ρ:zk} {w:World} {lm:Nat->Option Mem}
theorem zxR (hlm:∀k m,lm k=some m->(k,m)∈M) (hm:zO Keep M ρ w) {prev:SV->SV}
  (hp:∀{s:SV} {v:Value},G (λb=>Keep b∨Own M ρ b) (Own M ρ) ρ w s v->D Keep w (prev s) v):
  ∀(s:SV) {v:Value},G (λb=>Keep b∨Own M ρ b) (Own M ρ) ρ w s v->D Keep w (zgq prev lm s) v:=by
 have hsub:∀b,Keep b->Keep b∨Own M ρ b:=λb h=>.inl h
 intro s
 induction s using SV.rec (motive_2:=λcs=>∀{vs:List Value},Gs (λb=>Keep b∨Own M ρ b) (Own M ρ) ρ w cs vs->∀(j:Nat) (s:SV) (v:Value),(zgq.frzs prev lm cs)[j]? =some s->vs[j]? =some v->D Keep w s v) with
 | val v=>intro u hg;rw[hg.val_inv];exact .val v
 | pr p i=>intro u hg;rw[hg.pr_inv];exact .pr p i
 | sl enc xs=>intro u hg;exact hg.sl_inv.less hsub
 | nils=>intro u hg;obtain⟨a,rfl⟩:=hg.nils_inv;exact .nils a
 | anyb=>intro u hg;obtain⟨b,rfl⟩:=hg.anyb_inv;exact .anyb b
 | full enc xs=>intro u hg;obtain⟨a,rfl,hd⟩:=hg.full_inv;exact .full enc xs a (hd.less hsub)
 | dptr cs _=>intro u hg;cases hg with | d _ _ h=>exact h.less hsub
 | dfn f cs _=>intro u hg;cases hg with | d _ _ h=>exact h.less hsub
 | bm f cs _=>intro u hg;cases hg with | d _ _ h=>exact h.less hsub
 | op v=>intro u hg;cases hg with | d _ _ h=>exact h.less hsub
 | ifc t s ih=>
  intro u hg;obtain⟨v,rfl,hv⟩:=hg.ifc_inv;exact .ifc t _ v (ih hv)
 | agg cs ih=>
  intro u hg;obtain⟨vs,rfl,hvs⟩:=hg.agg_inv;exact .agg _ vs (by rw[zko,Xz];exact hvs.1) (ih hvs)
 | fn f cs ih=>
  intro u hg;obtain⟨vs,rfl,hvs⟩:=hg.fn_inv;exact .dfn f _ vs (by rw[zko,Xz];exact hvs.1) (ih hvs)
 | loc k off=>
  intro u hg;obtain⟨b,hρ,rfl⟩:=hg.loc_inv;simp only[zgq]
  split
  ·rename_i T cs hk;have hmem:=hlm k _ hk;obtain⟨b',vs,h1,h2,h3,h4,h5⟩:=hm.rel k _ hmem;rw[hρ]at h1;cases h1
   have hb:=hm.old b ⟨k,_,_,hmem,hρ,rfl⟩;refine .dptr _ b off (λj=>(vs[off+j]?).getD undef) hb.1 hb.2 (λj hj=>?_) (λj s hs=>?_)
   ·have hj':off+j < vs.length:=by simp at hj;omega
    rw[zfP h2];simp only[Xb hj',Qf];exact⟨trivial,h4 _ (KO hj')⟩
   ·rw[XV,XC]at hs
    cases hc:cs[off+j]? with
    | none=>simp[hc]at hs
    | some c=>
     simp[hc]at hs;subst hs;have hj':off+j < vs.length:=by have:=(Xc.1 hc).1;omega
     rw[Xb hj',Qf];exact hp (h5 _ c _ hc (Xb hj'))
  ·exact .junk _
 | own k=>
  intro u hg;obtain⟨hρ,h1⟩:=hg.own_inv;simp only[zgq]
  split
  ·rename_i T α enc sz xs hk;have hmem:=hlm k _ hk;exact zjb hm hmem (λb hb=>.inl hb) (λv b hv hb hk=>(hm.old b ⟨k,_,v,hmem,hv,hb⟩).2 hk) hρ
  ·exact .junk _
 | ptr cs _=>intro u _;exact .junk _
 | eloc _ _ _ _=>intro u _;exact .junk _
 | win _ _ _ _=>intro u _;exact .junk _
 | tup cs _=>intro u _;exact .junk _
 | junk=>intro u _;exact .junk _
 | nil=>rename_i vs _ j s v h _;simp[zgq.frzs]at h
 | cons c cs ihc ihcs=>
  rename_i vs hg j s v h hv;obtain⟨v0,vs',rfl,h1,h2⟩:=hg.cons_inv
  cases j with
  | zero=>simp[zgq.frzs]at h hv;subst h;subst hv;exact ihc h1
  | succ j=>exact ihcs h2 j s v (by simpa[zgq.frzs] using h) (by simpa using hv)
theorem zpY(hlm:∀k m,lm k=some m->(k,m)∈M)(hm:zO Keep M ρ w):∀(n:Nat) {s:SV} {v:Value},G (λb=>Keep b∨Own M ρ b) (Own M ρ) ρ w s v->D Keep w (frz lm n s) v
 | 0,s,_,h=>zxR hlm hm (λ_=>.junk _) s h
 | n+1,s,_,h=>zxR hlm hm (λh=>zpY hlm hm n h) s h
end
section
def endF(n:Nat)(Γ:List (TypeId×TI))(rs:List ResultVar)(r:SV)(e:Ex)(σ:St):Prop:=
 match e with
 | .exit _=>False
 | _=>zbQ σ Γ rs λs=>LE (ziu (zX σ.M) n s) r
variable{P:Program}{Γ:List (TypeId×TI)}{f:FuncId}{fn:Func}{c:Code}{r:SV}
theorem zcM (n:Nat)(hT:TOK P Γ) (hm:P.follows .mixedOrders=true){args:List SV}
  (hf:P.funcs[f]? =some fn) (hb:fn.body=some c) (hn:(fn.name== "runtime.NumGoroutine")=false) (hle:Nat.ble args.length fn.ntmps=true)
  (h:jP P Γ c ⟨yf 0 args,[],0,fn.ntmps,0⟩ (endF n Γ fn.results.toList r)):qI P f args [] r []:=by
 refine zaM hT hm hf hb hn hle h (λe σ h=>⟨σ,.refl,h⟩) (λe σ hq he=>?_) (λid σ hq=>hq)
 have hq:zbQ σ Γ fn.results.toList λs=>LE (ziu (zX σ.M) n s) r:=by
  cases e with
  | exit id=>exact absurd rfl (he id)
  | normal=>exact hq
  | ret=>exact hq
 obtain⟨s,hle,h1⟩:=yw hT hq;refine⟨s,h1,λ{E ρ a w v} hr hW _ hg=>⟨ρ,?_,?_,?_⟩⟩
 ·have hs:=hr.stp;exact⟨hs.os,hs.tape,hs.output,hs.size,λb hb hn=>hs.block b hb λh=>hn ((hW b).1 h),λb hb=>absurd hb z0,hs.rho⟩
 ·exact(jj hr.mem.kp λ_ _ h=>hr.mem.glc h)
 ·have hd:∀{s:SV} {v:Value},G (λb=>E.Keep b∨Own σ.M ρ b) (Own σ.M ρ) ρ w s v->D (λb=>E.Keep b∨Own [] ρ b) w (frz (zX σ.M) n s) v:=λh=>
   (zpY (λk m h=>zA h) hr.mem n h).less λb hb=>hb.resolve_right z0
  refine hle _ _ _ _ _ ?_;unfold ziu
  split
  ·rename_i cs;obtain⟨vs,rfl,hvs⟩:=hg.tup_inv;refine .tup _ vs (by rw[Xz];exact hvs.1) λj s v hs hv=>?_
   rw[XC]at hs
   cases hc:cs[j]? with
   | none=>simp[hc]at hs
   | some c=>
    simp[hc]at hs;subst hs;exact .d _ _ (hd (hvs.2 j c v hc hv))
  ·exact .d _ _ (hd hg)
theorem zif (n:Nat)(hT:TOK P Γ) (hm:P.follows .mixedOrders=true){args:List SV} {M:List (Nat×Mem)}
  (hf:P.funcs[f]? =some fn) (hb:fn.body=some c) (hn:(fn.name== "runtime.NumGoroutine")=false) (hle:Nat.ble args.length fn.ntmps=true)
  (h:jP P Γ c ⟨yf 0 args,M,M.length,fn.ntmps,M.length⟩ (endF n Γ fn.results.toList r)):qI P f args M r []:=by
 refine zaM hT hm hf hb hn hle h (λe σ h=>⟨σ,.refl,h⟩) (λe σ hq he=>?_) (λid σ hq=>hq)
 have hq:zbQ σ Γ fn.results.toList λs=>LE (ziu (zX σ.M) n s) r:=by
  cases e with
  | exit id=>exact absurd rfl (he id)
  | normal=>exact hq
  | ret=>exact hq
 obtain⟨s,hle,h1⟩:=yw hT hq;refine⟨s,h1,λ{E ρ a w v} hr hW _ hg=>⟨ρ,?_,?_,?_⟩⟩
 ·have hs:=hr.stp;exact⟨hs.os,hs.tape,hs.output,hs.size,λb hb hn=>hs.block b hb λh=>hn ((hW b).1 h),λb hb=>absurd hb z0,hs.rho⟩
 ·exact(jj hr.mem.kp λ_ _ h=>hr.mem.glc h)
 ·have hd:∀{s:SV} {v:Value},G (λb=>E.Keep b∨Own σ.M ρ b) (Own σ.M ρ) ρ w s v->D (λb=>E.Keep b∨Own [] ρ b) w (frz (zX σ.M) n s) v:=λh=>
   (zpY (λk m h=>zA h) hr.mem n h).less λb hb=>hb.resolve_right z0
  refine hle _ _ _ _ _ ?_;unfold ziu
  split
  ·rename_i cs;obtain⟨vs,rfl,hvs⟩:=hg.tup_inv;refine .tup _ vs (by rw[Xz];exact hvs.1) λj s v hs hv=>?_
   rw[XC]at hs
   cases hc:cs[j]? with
   | none=>simp[hc]at hs
   | some c=>
    simp[hc]at hs;subst hs;exact .d _ _ (hd (hvs.2 j c v hc hv))
  ·exact .d _ _ (hd hg)
structure ul (F:Fence):Prop where
 fn:∀f,F.fn f
 depth:F.depth=none
 alive:F.alive=false
theorem ul.wide:ul Fence.wide:=⟨λ_=>trivial,rfl,rfl⟩
theorem ul.inRound{F:Fence}(h:ul F)(l:Nat):ul (F.inRound l):=⟨h.fn,h.depth,h.alive⟩
theorem ul.room{F:Fence}(h:ul F)(n:Nat):F.room n:=λd hd=>by rw[h.depth]at hd;cases hd
theorem ul.fenced{F:Fence}(h:ul F)(P:Program)(m:Machine):m.fenced P F:=by
 intro g _;exact⟨λha=>(by rw[h.alive]at ha;cases ha),.inl (h.fn _),λf _=>h.fn f,h.room _⟩
variable{F:Fence}{m:Machine}{m':Machine}
theorem ul.steps(h:ul F)(hs:Steps P m m'):StepsIn (Machine.fenced P F) P m m':=
 (StepsIn.of_steps hs).mono λm _=>h.fenced P m
theorem ul.comes(h:ul F){e:Ending}(hs:Comes P m m' e):ComesIn (Machine.fenced P F) P m m' e:=by
 cases e with
 | returned v=>exact h.steps hs
 | panicked c=>exact h.steps hs
 | outgrown=>exact hs
variable{w:World}
theorem ul.calls(h:ul F){n:Nat}{args:Array Value}{R:Ending->World->Prop}(hc:Calls P f args w R):CallsIn F n P f args w R:=
 ⟨h.fn f,λcs _=>let ⟨e,w',fr,r,s,x⟩:=hc cs;⟨e,w',fr,r,h.comes s,x⟩⟩
theorem ul.rows(h:ul F){n:Nat}{row:String}{args:Array Value}{R:Value->World->Prop}(hc:Go.Rows P row args w R):RowsIn F n P row args w R:=
 λc cs _=>let ⟨v,w',r,s⟩:=hc c cs;⟨v,w',r,h.steps s⟩
theorem ul.need(h:ul F){n:Nat}:F.depth.isSome=true->1<=n:=λhd=>by rw[h.depth]at hd;cases hd
variable{a:Act}{Q:Exit->Act->World->Prop}
theorem ul.op(h:ul F) {n:Nat}{o:Oper}{K:Act->World->Prop}(hd:∀c,o.op≠.defer c)
  (hw:o.wp P a w K Q):o.wpIn F n P a w K Q:=by
 refine⟨λf _=>h.fn f,?_⟩;rw[Oper.semAt_eq _ _ _ hd];unfold Oper.wp at hw;generalize (execOp a.eval o).run P w=r at*
 cases r with
 | ok x w'=>
  cases x <;> simp only[Oper.upon,Oper.uponIn]at hw ⊢
  case value=>exact hw
  case skip=>exact hw
  case defer=>exact hw
  case enter=>exact⟨h.need,(h.calls hw).mono λe w'' he=>by cases e <;> exact he⟩
  case row=>exact⟨h.need,h.rows hw⟩
 | halt x w'=>cases x <;> simp only[Oper.upon,Oper.uponIn]at hw ⊢;exact hw
def zpZ(o:Oper):Bool:=match o.op with | .defer _=>false | _=>true
theorem zft{o:Oper}(h:zpZ o=true):∀c,o.op≠.defer c:=λc e=>by unfold zpZ at h;rw[e]at h;cases h
def um(l:List Oper):Bool:=l.all zpZ
theorem zkp{l:List Oper}(h:um l=true){o:Oper}(ho:o∈l):∀c,o.op≠.defer c:=zft (XN.1 h o ho)
theorem ul.list{F:Fence}(h:ul F){n:Nat}{P:Program}{ops:Array Oper}{Q:Exit->Act->World->Prop}(hQ:∀a w,¬Q .outgrown a w):∀{l:List Oper} {a:Act} {w:World},um l=true->
  wpList P ops Q l a w->wpListIn F n P ops Q l a w
 | [],_,_,_,hw=>hw
 | o::r,a,w,hd,hw=>by
  have hd':zpZ o=true/\um r=true:=by unfold um at hd ⊢;rw[Yu,Xx]at hd;exact hd
  unfold wpList at hw;unfold wpListIn
  split
  ·rename_i hwt;rw[if_pos hwt]at hw;have hw:=hw.resolve_right λk=>by obtain⟨_,a',w',k⟩:=k;exact hQ _ _ k
   exact h.op (zft hd'.1) (Oper.wp_mono (λa w hk=>h.list hQ hd'.2 hk) hw)
  ·rename_i hwt;rw[if_neg hwt]at hw;exact⟨λf _=>h.fn f,h.list hQ hd'.2 hw⟩
theorem ul.any{F:Fence}(h:ul F){n:Nat}{P:Program}{md:Region.Mode}{ops:Array Oper}{Q:Exit->Act->World->Prop}(hQ:∀a w,¬Q .outgrown a w)(hd:um ops.toList=true):
  ∀{fuel:Nat} {listed:Array Bool} {a:Act} {w:World},wpAny P md ops Q fuel listed a w->wpAnyIn F n P md ops Q fuel listed a w
 | 0,_,_,_,hw=>hw
 | fuel+1,listed,a,w,hw=>by
  refine⟨hw.1,λi hi=>?_⟩;have:=hw.2 i hi;unfold wpOp at this;unfold wpOpIn
  cases ho:ops[i]? with
  | none=>rw[ho]at this;exact h.any hQ hd this
  | some o=>
   rw[ho]at this;dsimp only at this ⊢;have hdo:=zkp hd (o:=o) (by rw[Array.mem_toList_iff];exact Array.mem_of_getElem? ho)
   split
   ·rename_i hwt;rw[if_pos hwt]at this;have:=this.resolve_right λk=>by obtain⟨_,a',w',k⟩:=k;exact hQ _ _ k
    exact h.op hdo (Oper.wp_mono (λa w hk=>h.any hQ hd hk) this)
   ·rename_i hwt;rw[if_neg hwt]at this;exact⟨λf _=>h.fn f,h.any hQ hd this⟩
def vd:Code->Bool
 | .region _ ops _=>um ops.toList
 | .seq x y=>vd x&&vd y
 | .cond _ x y=>vd x&&vd y
 | .block _ c=>vd c
 | .loop c=>vd c
 | .scope _=>false
 | _=>true
variable{E:Env}
theorem u3.grown{Q:Ex->St->Prop}(a:Act)(w:World):¬u3 E Q .outgrown a w:=λh=>h
theorem zu4(hF:ul F) {n:Nat}(hT:TOK P Γ) (hm:P.follows .mixedOrders=true){id:Nat} {ops:Array Oper} {draw:Bool} {σ:St} {Q:Ex->St->Prop} {ρ:zk}
  (hd:um ops.toList=true) (hr:Rel E σ ρ a w) (h:jP P Γ (.region id ops draw) σ Q):(Code.region id ops draw).wpIn F n P (u3 E Q) a w:=by
 cases draw with
 | false=>
  have h:vh P Γ false ops.toList ops.toList 0 σ (Q .normal):=h;refine wpIn_region_list (hF.list u3.grown hd ?_);have:=ziE (Q:=u3 E Q) hT (λσ ρ a w h hr=>⟨σ,ρ,h,hr⟩) hr h
  simpa using this
 | true=>
  have h:Dr (vq ops.toList=true) (vh P Γ true ops.toList ops.toList 0 σ (Q .normal)) (Ob (zff ops.toList=true) (zaW P Γ ops.toList ops.toList 0 [] σ (Q .normal))):=h;refine wpIn_region_any hm (hF.any u3.grown hd ?_)
  rcases h with⟨h1,h2⟩ | ⟨h1,h2⟩
  ·exact zdx hT hr h1 h2 λσ ρ a w h hr=>⟨σ,ρ,h,hr⟩
  ·exact zf2 hT hr h1 h2 λσ ρ a w h hr=>⟨σ,ρ,h,hr⟩
theorem zay{n:Nat}(I:Nat->Act->World->Prop) (n₀:Nat) (h₀:I n₀ a w)
  (round:∀m a w,I m a w->c.wpIn F n P (Exit.then (λa' w'=>∃m',m' < m/\I m' a' w') Q) a w):(Code.loop c).wpIn F n P Q a w:=by
 refine wpIn_loop (λa w=>∃m,I m a w) (λa w=>leastOf (λm=>I m a w)) ⟨n₀,h₀⟩ ?_;intro a w hI;refine wpIn_mono (round _ a w (leastOf_spec hI).1) ?_;intro e a' w' hq
 cases e with
 | normal=>
  obtain⟨m',hlt,hI'⟩:=hq;exact show(∃m,I m a' w')/\leastOf (λm=>I m a' w') < leastOf (λm=>I m a w) from⟨⟨m',hI'⟩,KX ((leastOf_spec ⟨m',hI'⟩).2 m' hI') hlt⟩
 | exit id=>exact hq
 | goto l=>exact hq
 | ret=>exact hq
 | panic ch=>exact hq
 | outgrown=>exact hq
theorem uZ{F:Fence}(hF:ul F){n:Nat}{P:Program}{Γ:List (TypeId×TI)}(hT:TOK P Γ)(hm:P.follows .mixedOrders=true){E:Env}:∀(c:Code) {σ:St} {Q:Ex->St->Prop} {ρ:zk} {a:Act} {w:World},
  vd c=true->Rel E σ ρ a w->jP P Γ c σ Q->c.wpIn F n P (u3 E Q) a w
 | .skip,σ,Q,ρ,a,w,_,hr,h=>wpIn_skip ⟨σ,ρ,h,hr⟩
 | .region id ops draw,σ,Q,ρ,a,w,hd,hr,h=>zu4 hF hT hm hd hr h
 | .seq x y,σ,Q,ρ,a,w,hd,hr,h=>by
  have hd:vd x=true/\vd y=true:=by unfold vd at hd;rwa [Xx]at hd
  refine wpIn_seq (wpIn_mono (uZ hF hT hm x hd.1 hr h) (λe a' w' hq=>?_))
  cases e with
  | normal=>obtain⟨σ',ρ',h',hr'⟩:=hq;exact uZ hF hT hm y hd.2 hr' h'
  | exit id=>exact hq
  | ret=>exact hq
  | _=>exact hq.elim
 | .cond c x y,σ,Q,ρ,a,w,hd,hr,h=>by
  have hd:vd x=true/\vd y=true:=by unfold vd at hd;rwa [Xx]at hd
  obtain⟨s,h,hs⟩:=zeh h;have hg:=hs (a:=a) (λt s _ hl=>(hr.regs t s hl).2)
  split at h
  ·exact wpIn_cond_true hg.val_inv (uZ hF hT hm x hd.1 hr h)
  ·exact wpIn_cond_false hg.val_inv (uZ hF hT hm y hd.2 hr h)
  ·rename_i p i
   by_cases hp:p
   ·exact wpIn_cond_true (by rw[hg.pr_inv];simp[hp]) (uZ hF hT hm x hd.1 hr (h.yes hp))
   ·exact wpIn_cond_false (by rw[hg.pr_inv];simp[hp]) (uZ hF hT hm y hd.2 hr (h.no hp))
  ·obtain⟨b,hb⟩:=hg.anyb_inv
   cases b with
   | true=>exact wpIn_cond_true hb (uZ hF hT hm x hd.1 hr h.yes)
   | false=>exact wpIn_cond_false hb (uZ hF hT hm y hd.2 hr h.no)
  ·exact h.elim
 | .block id c,σ,Q,ρ,a,w,hd,hr,h=>by
  refine wpIn_block (wpIn_mono (uZ hF hT hm c hd hr h) (λe a' w' hq=>?_))
  cases e with
  | normal=>exact hq
  | exit j=>
   obtain⟨σ',ρ',h',hr'⟩:=hq;dsimp only at h';show(if j=id then u3 E Q .normal a' w' else u3 E Q (.exit j) a' w')
   split at h'
   ·rename_i hb;rw[if_pos (Xg hb)];exact⟨σ',ρ',h',hr'⟩
   ·rename_i hb;rw[if_neg (KH hb)];exact⟨σ',ρ',h',hr'⟩
  | ret=>exact hq
  | _=>exact hq.elim
 | .loop c,σ,Q,ρ,a,w,hd,hr,h=>by
  obtain⟨ι,S,I,μ,x0,h0,hsub,hround⟩:=h;obtain⟨ρ0,hr0⟩:=hsub E ρ a w hr;refine zay (λn a w=>∃x ρ,I x/\μ x=n/\Rel E (S x) ρ a w) (μ x0) ⟨x0,ρ0,h0,rfl,hr0⟩ λn a w hI=>?_
  obtain⟨x,ρ1,h1,rfl,hr1⟩:=hI;refine wpIn_mono (uZ hF hT hm c hd hr1 (hround x h1)) (λe a' w' hq=>?_)
  cases e with
  | normal=>
   obtain⟨σ',ρ',⟨x',h2,hs2,hlt⟩,hr'⟩:=hq;obtain⟨ρ2,hr2⟩:=hs2 E ρ' a' w' hr';exact⟨μ x',hlt,x',ρ2,h2,rfl,hr2⟩
  | exit id=>exact hq
  | ret=>exact hq
  | _=>exact hq.elim
 | .exit id,σ,Q,ρ,a,w,_,hr,h=>wpIn_exit ⟨σ,ρ,h,hr⟩
 | .ret,σ,Q,ρ,a,w,_,hr,h=>wpIn_ret ⟨σ,ρ,h,hr⟩
 | .rangeFunc _ _ _ _,_,_,_,_,_,_,_,h=>by cases h
 | .scope _,_,_,_,_,_,hd,_,_=>by cases hd
 | .label _,σ,Q,ρ,a,w,_,hr,h=>wpIn_label ⟨σ,ρ,h,hr⟩
 | .goto _,_,_,_,_,_,_,_,h=>by cases h
 | .refuse _,_,_,_,_,_,_,_,h=>by cases h
end
section put
variable {w:World} {l:Nat} {o o':Obj}
theorem zkq(hl:w.heap[l]? =some o)(ho:o.isCells=false){a:Addr}{v:Value}(h:w.cell? a=some v):(w.putObj l o').cell? a=some v:=by
 obtain⟨o2,h2,hc⟩:=cells_of_cell h
 have hne:a.block≠l:=by
  intro e;rw[e,hl]at h2
  cases h2
  rw[ho]at hc;cases hc
 exact(World.cell?_of_block (World.putObj_heap_other hne)).trans h
theorem qc.put(hl:w.heap[l]? =some o)(ho:o.isCells=false)(ho':o'.isCells=false):qc w (w.putObj l o'):=⟨rfl,λa=>by
 unfold World.frozen?
 by_cases e:a.block=l
 ·have hlt:=(X1.1 hl).1;rw[e,hl,World.putObj_heap_same hlt]
  cases o <;> cases o' <;> first | rfl | (cases ho;done) | (cases ho';done)
 ·rw[World.putObj_heap_other e]⟩
theorem D.put(hl:w.heap[l]? =some o)(ho:o.isCells=false){S:Nat->Prop}{s:SV}{v:Value}(h:D S w s v):D S (w.putObj l o') s v:=by
 induction h with
 | val v=>exact .val v
 | pr p i=>exact .pr p i
 | agg cs vs hl h ih=>exact .agg cs vs hl ih
 | nil enc a=>exact .nil enc a
 | nils a=>exact .nils a
 | anyb b=>exact .anyb b
 | junk v=>exact .junk v
 | full enc xs a h ih=>exact .full enc xs a ih
 | sl enc xs sz b o cap c hb hS' hlen hcap hsz hc h ih=>
  exact .sl enc xs sz b o cap c (by rw[World.putObj_size];exact hb) hS' hlen hcap hsz (λi j hi hj=>⟨zkq hl ho (hc i j hi hj).1,(hc i j hi hj).2⟩) ih
 | dptr cs b o c hb hS' hc h ih=>
  exact .dptr cs b o c (by rw[World.putObj_size];exact hb) hS' (λj hj=>⟨zkq hl ho (hc j hj).1,(hc j hj).2⟩) ih
 | dfn f cs vs hl h ih=>exact .dfn f cs vs hl ih
 | bm f cs vs hl h ih=>exact .bm f cs vs hl ih
 | op v h=>exact .op v h
 | ifc t s v h ih=>exact .ifc t s v ih
theorem G.put(hl:w.heap[l]? =some o)(ho:o.isCells=false){S Pm:Nat->Prop}{ρ:zk}{s:SV}{v:Value}(h:G S Pm ρ w s v):G S Pm ρ (w.putObj l o') s v:=by
 induction h with
 | d s v h=>exact .d s v (h.put hl ho)
 | loc k off b h=>exact .loc k off b h
 | own k v h h1=>exact .own k v h h1
 | eloc k sz i off b len cap h=>exact .eloc k sz i off b len cap h
 | win k sz lo n b len cap cap' h h1 h2=>exact .win k sz lo n b len cap cap' h h1 h2
 | ptr cs b o c hb hP' hc h=>
  exact .ptr cs b o c (by rw[World.putObj_size];exact hb) hP' (λj hj=>⟨zkq hl ho (hc j hj).1,(hc j hj).2⟩) (λj s hs=>(h j s hs).put hl ho)
 | agg cs vs hl h ih=>exact .agg cs vs hl ih
 | tup cs vs hl h ih=>exact .tup cs vs hl ih
 | fn f cs vs hl h ih=>exact .fn f cs vs hl ih
 | ifc t s v h ih=>exact .ifc t s v ih
theorem j8.put(hl:w.heap[l]? =some o)(ho:o.isCells=false)(hm:∀es c,o≠.map es c){S Pm:Nat->Prop}{ρ:zk}{k:Nat}{m:Mem}(h:j8 S Pm ρ w k m):j8 S Pm ρ (w.putObj l o') k m:=by
 cases m with
 | box T cs=>
  obtain⟨b,vs,h1,h2,h3,h4,h5⟩:=h;refine⟨b,vs,h1,(World.putObj_heap_other λe=>?_).trans h2,h3,h4,λj s v hs' hv=>(h5 j s v hs' hv).put hl ho⟩;rw[e,hl]at h2;cases h2;cases ho
 | arr T enc sz xs=>
  obtain⟨v,cells,h1,h2,h3,h4,h5,h6⟩:=h;refine⟨v,cells,h1,ownsRow_putObj h2 o' hl ho,h3,h4,h5,λi j x s hx hj=>?_⟩;obtain⟨u,hu,hd⟩:=h6 i j x s hx hj;exact⟨u,hu,hd.put hl ho⟩
 | garr T sz xs=>
  obtain⟨v,cells,h1,h2,h3,h4,h5,h6⟩:=h;refine⟨v,cells,h1,ownsRow_putObj h2 o' hl ho,h3,h4,h5,λi j x s hx hj=>?_⟩;obtain⟨u,hu,hd⟩:=h6 i j x s hx hj;exact⟨u,hu,hd.put hl ho⟩
 | map es=>
  obtain⟨r,ents,clock,h1,h2,h3,h4⟩:=h;refine⟨r,ents,clock,h1,(World.putObj_heap_other λe=>?_).trans h2,h3,λi n s hi=>?_⟩
  ·rw[e,hl]at h2;cases h2;exact hm _ _ rfl
  obtain⟨e,g1,g2,g3⟩:=h4 i n s hi;exact⟨e,g1,g2,g3.put hl ho⟩
theorem zO.put(hl:w.heap[l]? =some o)(ho:o.isCells=false)(hm:∀es c,o≠.map es c){Keep:Nat->Prop}{M:List (Nat×Mem)}{ρ:zk}(h:zO Keep M ρ w):zO Keep M ρ (w.putObj l o'):=
 ⟨λk m hk=>(h.rel k m hk).put hl ho hm,h.keys,h.apart,λb hb=>⟨by rw[World.putObj_size];exact(h.old b hb).1,(h.old b hb).2⟩,λb hb=>by rw[World.putObj_size];exact h.kp b hb,λg v hg=>by
  obtain⟨h1,h2⟩:=h.gl g v hg;refine⟨h1,(zi0 (World.putObj_heap_other λe=>?_)).trans h2⟩;subst e
  cases o <;> simp[World.cell?,hl,Obj.isCells]at h2 ho⟩
theorem Rel.cut{E:Env}{σ:St}{ρ:zk}{a:Act}{w:World}(h:Rel E σ ρ a w):Rel ⟨w,E.ρ0,E.Keep,Own σ.M ρ,E.ds⟩ σ ρ a w:=
 ⟨h.size,h.defers,h.regs,h.mem,h.fresh,⟨rfl,rfl,.refl _,Xh _,λ_ _ _=>rfl,λ_ h=>.inl h,h.stp.rho⟩,h.mem.kp,h.low⟩
theorem Rel.put(hl:w.heap[l]? =some o)(ho:o.isCells=false)(hm:∀es c,o≠.map es c){E:Env}{σ:St}{ρ:zk}{a:Act}(h:Rel E σ ρ a w):
  Rel ⟨w.putObj l o',E.ρ0,E.Keep,Own σ.M ρ,E.ds⟩ σ ρ a (w.putObj l o'):=
 ⟨h.size,h.defers,λt s hl'=>⟨(h.regs t s hl').1,(h.regs t s hl').2.put hl ho⟩,h.mem.put hl ho hm,h.fresh,
  ⟨rfl,rfl,.refl _,Xh _,λ_ _ _=>rfl,λ_ h=>.inl h,h.stp.rho⟩,λb hb=>by rw[World.putObj_size];exact h.mem.kp b hb,h.low⟩
end put
section
def pfS:SV->Bool
 | .ptr _=>false
 | .agg cs=>pfs cs
 | .tup cs=>pfs cs
 | .fn _ cs=>pfs cs
 | .ifc _ s=>pfS s
 | _=>true
 where
 pfs:List SV->Bool
  | []=>true
  | c::cs=>match pfS c with
   | true=>pfs cs
   | false=>false
theorem zez:∀{cs:List SV},pfS.pfs cs=true->∀(j:Nat) (s:SV),cs[j]? =some s->pfS s=true
 | [],_,j,s,hj=>by simp at hj
 | c::cs,h,j,s,hj=>by
  unfold pfS.pfs at h
  split at h
  ·rename_i hc
   cases j with
   | zero=>cases hj;exact hc
   | succ j=>exact zez h j s (by simpa using hj)
  ·cases h
theorem G.pf {S S' Pm Pm':Nat->Prop} {ρ:zk} {w w':World} (hz:w.heap.size<=w'.heap.size)
  (hS:∀b,b < w.heap.size->¬S b->¬S' b/\w'.heap[b]? =w.heap[b]?) {s:SV} {v:Value} (h:G S Pm ρ w s v) (hp:pfS s=true):G S' Pm' ρ w' s v:=by
 induction h with
 | d s v h=>exact .d s v (h.mono hz hS)
 | loc k off b h=>exact .loc k off b h
 | own k v h h1=>exact .own k v h h1
 | eloc k sz i off b len cap h=>exact .eloc k sz i off b len cap h
 | win k sz lo n b len cap cap' h h1 h2=>exact .win k sz lo n b len cap cap' h h1 h2
 | ptr cs b o c hb hP' hc h=>cases hp
 | agg cs vs hl h ih=>exact .agg cs vs hl λj s v hs hv=>ih j s v hs hv (zez hp j s hs)
 | tup cs vs hl h ih=>exact .tup cs vs hl λj s v hs hv=>ih j s v hs hv (zez hp j s hs)
 | fn f cs vs hl h ih=>exact .fn f cs vs hl λj s v hs hv=>ih j s v hs hv (zez hp j s hs)
 | ifc t s v h ih=>exact .ifc t s v (ih hp)
variable{ρ:zk}{ρ':zk}{w:World}
theorem G.low{S Pm:Nat->Prop}{n:Nat}(hρ:∀k v,k < n->ρ k=some v->ρ' k=some v){s:SV}{v:Value}(h:G S Pm ρ w s v)(hl:vM n s=true):G S Pm ρ' w s v:=by
 induction h with
 | d s v h=>exact .d s v h
 | loc k off b h=>exact .loc k off b (hρ _ _ (by unfold vM at hl;exact J7 ▸ hl) h)
 | own k v h h1=>exact .own k v (hρ _ _ (by unfold vM at hl;exact J7 ▸ hl) h) h1
 | eloc k sz i off b len cap h=>exact .eloc k sz i off b len cap (hρ _ _ (by unfold vM at hl;exact J7 ▸ hl) h)
 | win k sz lo n b len cap cap' h h1 h2=>exact .win k sz lo n b len cap cap' (hρ _ _ (by unfold vM at hl;exact J7 ▸ hl) h) h1 h2
 | ptr cs b o c hb hP' hc h=>exact .ptr cs b o c hb hP' hc h
 | agg cs vs hl' h ih=>exact .agg cs vs hl' λj s v hs hv=>ih j s v hs hv (zaZ hl j s hs)
 | tup cs vs hl' h ih=>exact .tup cs vs hl' λj s v hs hv=>ih j s v hs hv (zaZ hl j s hs)
 | fn f cs vs hl' h ih=>exact .fn f cs vs hl' λj s v hs hv=>ih j s v hs hv (zaZ hl j s hs)
 | ifc t s v h ih=>exact .ifc t s v (ih (by unfold vM at hl;exact hl))
def pfM:Mem->Prop
 | .box _ cs=>pfS.pfs cs=true
 | .arr _ _ _ _=>True
 | .garr _ _ xs=>∀x∈xs,pfS.pfs x=true
 | .map _=>True
def zkr(M:List (Nat×Mem)):Prop:=∀k m,(k,m)∈M->pfM m
theorem j8.pf{S S' Pm Pm':Nat->Prop}{ρ:zk}{w:World}{k:Nat}{m:Mem}(hS:∀b,S' b->S b)(hp:pfM m)(h:j8 S Pm ρ w k m):j8 S' Pm' ρ w k m:=by
 have hS':∀b,b < w.heap.size->¬S b->¬S' b/\w.heap[b]? =w.heap[b]? :=λb _ hn=>⟨λk=>hn (hS b k),rfl⟩
 cases m with
 | box T cs=>
  obtain⟨b,vs,h1,h2,h3,h4,h5⟩:=h;exact⟨b,vs,h1,h2,h3,h4,λj s v hs' hv=>(h5 j s v hs' hv).pf (Xh _) hS' (zez hp j s hs')⟩
 | arr T enc sz xs=>
  obtain⟨v,cells,h1,h2,h3,h4,h5,h6⟩:=h;refine⟨v,cells,h1,h2,h3,h4,h5,λi j x s hx hj=>?_⟩;obtain⟨u,hu,hd⟩:=h6 i j x s hx hj;exact⟨u,hu,hd.less hS⟩
 | garr T sz xs=>
  obtain⟨v,cells,h1,h2,h3,h4,h5,h6⟩:=h;refine⟨v,cells,h1,h2,h3,h4,h5,λi j x s hx hj=>?_⟩;obtain⟨u,hu,hd⟩:=h6 i j x s hx hj;exact⟨u,hu,hd.pf (Xh _) hS' (zez (hp x (Xd hx)) j s hj)⟩
 | map es=>
  obtain⟨r,ents,clock,h1,h2,h3,h4⟩:=h;refine⟨r,ents,clock,h1,h2,h3,λi n s hi=>?_⟩;obtain⟨e,g1,g2,g3⟩:=h4 i n s hi;exact⟨e,g1,g2,g3.less hS⟩
structure Mv (S S':Nat->Prop) (w w':World):Prop extends Stp S S' (λ_=>none) (λ_=>none) w w' where
 gl:∀g v,GL g v->w.cell? ⟨g,0,none⟩=some v->w'.cell? ⟨g,0,none⟩=some v
variable{w':World}
theorem zO.other {K T T':Nat->Prop} {M:List (Nat×Mem)}(h:zO (λb=>K b∨T b) M ρ w) (hp:zkr M) (hmv:Mv T T' w w')
  (hd:∀b,T' b->¬Own M ρ b/\b < w'.heap.size):zO (λb=>K b∨T' b) M ρ w':=by
 have hno:∀b,Own M ρ b->¬T b:=λb hb ht=>(h.old b hb).2 (.inr ht)
 have hs:Stp (λb=>Own M ρ b∨T b) (λb=>Own M ρ b∨T' b) ρ ρ w w':=
  ⟨hmv.os,hmv.tape,hmv.output,hmv.size,λb hb hn=>hmv.block b hb λht=>hn (.inr ht),λb hb=>hb.elim (λh=>.inl (.inl h)) λht=>(hmv.own b ht).imp .inr id,λ_ _ h=>h⟩
 refine⟨λk m hk=>?_,h.keys,h.apart,λb hb=>⟨Xr (h.old b hb).1 hmv.size,λhk=>hk.elim (λk=>(h.old b hb).2 (.inl k)) λht=>(hd b ht).1 hb⟩,λb hb=>hb.elim (λk=>Xr (h.kp b (.inl k)) hmv.size) λht=>(hd b ht).2,λg v hg=>⟨(h.gl g v hg).1,hmv.gl g v hg (h.glc hg)⟩⟩
 have h1:j8 (λb=>K b∨(Own M ρ b∨T b)) (λb=>Own M ρ b∨T b) ρ w k m:=
  (h.rel k m hk).pf (λb hb=>hb.elim (λk=>.inl (.inl k)) λh=>h.elim .inr λht=>.inl (.inr ht)) (hp k m hk)
 have h2:=h1.keep hs rfl (λv b hv hb=>hmv.block b (h.old b ⟨k,m,v,hk,hv,hb⟩).1 (hno b ⟨k,m,v,hk,hv,hb⟩));exact h2.pf (λb hb=>hb.elim (λh=>h.elim .inl λht=>.inr (.inr ht)) λh=>.inr (.inl h)) (hp k m hk)
theorem zO.few{K K':Nat->Prop}{M:List (Nat×Mem)}{ρ:zk}{w:World}(h:zO K M ρ w)(hp:zkr M)(hk:∀b,K' b->K b):zO K' M ρ w:=
 ⟨λk m hm=>(h.rel k m hm).pf (λ_ hb=>hb.imp (hk _) id) (hp k m hm),h.keys,h.apart,λb hb=>⟨(h.old b hb).1,λk=>(h.old b hb).2 (hk b k)⟩,λb hb=>h.kp b (hk b hb),h.gl⟩
def Ds(S:Nat->Prop)(w:World)(cs:List SV)(vs:List Value):Prop:=
 vs.length=cs.length/\∀(j:Nat) (s:SV) (v:Value),cs[j]? =some s->vs[j]? =some v->D S w s v
def zmg(P:Program)(f:FuncId)(caps:List SV){α:Type}(enc:α->List SV)(xs:List α):Prop:=
 zbP P f/\∀(SA:Nat->Prop) (w:World) (vs:List Value) (l:Nat) (J:Nat->(Nat->Prop)->(Nat->Prop)->World->Prop) (Jx:(Nat->Prop)->(Nat->Prop)->World->Prop),
  (∀b,SA b->b < w.heap.size)->(∀g v,GL g v->w.cell? ⟨g,0,none⟩=some v)->Ds SA w caps vs->
  (∀i SA SB SB' W W',J i SA SB W->Mv SB SB' W W'->(∀b,SB' b->¬SA b/\b < W'.heap.size)->J i SA SB' W')->
  (∀SA SB SB' W W',Jx SA SB W->Mv SB SB' W W'->(∀b,SB' b->¬SA b/\b < W'.heap.size)->Jx SA SB' W')->
  (∀i x SA SB W args,xs[i]? =some x->J i SA SB W->(∀b,SA b->b < W.heap.size)->(∀b,SB b->¬SA b/\b < W.heap.size)->Ds (λb=>SA b∨SB b) W (enc x) args->
   YieldAt Fence.wide 0 P l (List.toArray args) W λe W'=>∃SA':Nat->Prop,Mv SA SA' W W'/\(∀b,SA' b->¬SB b/\b < W'.heap.size)/\
    ((e=.returned (.bool true)/\J (i+1) SA' SB W')∨(e=.returned (.bool false)/\Jx SA' SB W')))->
  J 0 SA (λ_=>False) w->
  CallsIn Fence.wide 0 P f (List.toArray (.func (.yield l) #[] #[]::vs)) w λe W'=>(∃v,e=.returned v)/\∃SA' SB',J xs.length SA' SB' W'∨Jx SA' SB' W'
def zxS:List Nat->List SV->List (Nat×SV)->List (Nat×SV)
 | p::ps,e::es,L=>(p,e)::zxS ps es L
 | _,_,L=>L
def zcN(l:List (Nat×Value))(A:Array Value):Array Value:=l.foldl (λtm p=>tm.setIfInBounds p.1 p.2) A
theorem zig:∀(l:List (Nat×Value)) (A:Array Value),(zcN l A).size=A.size
 | [],_=>rfl
 | p::l,A=>by unfold zcN;rw[Kw];exact(zig l _).trans (by simp)
theorem zcO:∀(l:List (Nat×Value)) (A:Array Value) (t:Nat),(∀p∈l,p.1≠t)->(zcN l A).getD t undef=A.getD t undef
 | [],_,_,_=>rfl
 | p::l,A,t,h=>by
  unfold zcN;rw[Kw];refine(zcO l _ t λq hq=>h q (.tail _ hq)).trans ?_;rw[X2,KM (h p (.head _)),← X2]
theorem zmh:∀(l:List (Nat×Value)) (A:Array Value),(l.map Prod.fst).Nodup->∀(j:Nat) (t:Nat) (v:Value),l[j]? =some (t,v)->t < A.size->(zcN l A).getD t undef=v
 | [],_,_,j,t,v,h,_=>by simp at h
 | p::l,A,hn,j,t,v,h,ht=>by
  rw[Q1,List.nodup_cons]at hn;unfold zcN;rw[Kw]
  cases j with
  | zero=>
   cases h
   refine(zcO l _ t λq hq e=>hn.1 (by rw[XO];exact⟨q,hq,e⟩)).trans ?_;simp[X2,ht]
  | succ j=>exact zmh l _ hn.2 j t v (by simpa using h) (by simpa using ht)
theorem zmi:∀(ps:List Nat) (es:List SV) (L:List (Nat×SV)) (t:Nat) (s:SV),ps.length=es.length->qe (zxS ps es L) t=some s->
  (∃j:Nat,ps[j]? =some t/\es[j]? =some s)∨((∀p∈ps,p≠t)/\qe L t=some s)
 | [],[],L,t,s,_,h=>.inr ⟨λ_ hp=>(by cases hp),h⟩
 | [],_::_,_,_,_,hl,_=>by cases hl
 | _::_,[],_,_,_,hl,_=>by cases hl
 | p::ps,e::es,L,t,s,hl,h=>by
  unfold zxS at h;rw[kL]at h
  by_cases hp:p=t
  ·rw[if_pos hp]at h
   cases h
   exact .inl ⟨0,by rw[hp];rfl,rfl⟩
  ·rw[if_neg hp]at h
   rcases zmi ps es L t s (by simpa using hl) h with⟨j,h1,h2⟩ | ⟨h1,h2⟩
   ·exact .inl ⟨j+1,h1,h2⟩
   ·exact .inr ⟨λq hq=>by cases hq with
     | head=>exact hp
     | tail _ hq=>exact h1 q hq,h2⟩
def pfL(m:Nat):List (Nat×SV)->Bool
 | []=>true
 | (_,s)::r=>match pfS s with
  |true=>(match vM m s with
   | true=>pfL m r
   | false=>false)
  | false=>false
theorem znS{m:Nat}:∀{L:List (Nat×SV)} {t:Nat} {s:SV},pfL m L=true->qe L t=some s->pfS s=true/\vM m s=true
 | [],_,_,_,h=>by cases h
 | (k,s0)::r,t,s,h,hl=>by
  unfold pfL at h
  split at h
  ·rename_i h1
   split at h
   ·rename_i h2;rw[kL]at hl
    by_cases e:k=t
    ·rw[if_pos e]at hl;cases hl;exact⟨h1,h2⟩
    ·rw[if_neg e]at hl;exact znS h hl
   ·cases h
  ·cases h
def ztw(n:Nat):List Nat->Bool
 | []=>true
 | p::r=>match Nat.blt p n with
  | true=>ztw n r
  | false=>false
theorem zmj{n:Nat}:∀{l:List Nat},ztw n l=true->∀p∈l,p < n
 | [],_,_,h=>by cases h
 | q::r,h,p,hp=>by
  unfold ztw at h
  split at h
  ·rename_i h1
   cases hp with
   | head=>exact J7 ▸ h1
   | tail _ hp=>exact zmj h p hp
  ·cases h
def ztx(P:Program)(Γ:List (TypeId×TI))(f:FuncId)(caps:List SV)(ps:List Nat)(assign body:Code)(σ:St)(Q:Ex->St->Prop):Prop:=
 ∃(β:Type) (enc:β->List SV) (ys:List β) (m:Nat) (L:List (Nat×SV)) (S:Nat->List (Nat×Mem)) (nk:Nat->Nat),
  zmg P f caps enc ys/\(∀y,(enc y).length=ps.length)/\(zde ps=true/\ztw σ.nt ps=true/\vd assign=true/\vd body=true)/\
  Sub σ ⟨L,S 0,nk 0,σ.nt,σ.n0⟩/\(σ.n0<=m/\pfL m L=true)/\(∀j,zkr (S j))/\
  (∀j y,ys[j]? =some y->jP P Γ assign ⟨zxS ps (enc y) L,S j,nk j,σ.nt,m⟩ λe σ1=>match e with
   | .normal=>jP P Γ body σ1 λe σ2=>match e with
    | .normal=>Sub σ2 ⟨[],S (j+1),nk (j+1),σ.nt,m⟩
    | .exit id=>∃M' nk',Sub σ2 ⟨[],M',nk',σ.nt,m⟩/\zkr M'/\Q (.exit id) ⟨L,M',nk',σ.nt,σ.n0⟩
    | .ret=>∃M' nk',Sub σ2 ⟨[],M',nk',σ.nt,m⟩/\zkr M'/\Q .ret ⟨L,M',nk',σ.nt,σ.n0⟩
   | _=>False)/\
  Q .normal ⟨L,S ys.length,nk ys.length,σ.nt,σ.n0⟩
structure RR (E E':Env) (σ:St) (ρ:zk) (a:Act) (w:World):Prop where
 rel:Rel E' σ ρ a w
 rho:E'.ρ0=E.ρ0
 kp:∀b,E.Keep b->E'.Keep b
 stp:Stp E.W0 (Own σ.M ρ) E.ρ0 ρ E.w0 w
 marks:∀d∈E'.ds,∃D,d={ target:=.collected D,args:=#[] }/\E'.Keep D/\E.w0.heap.size<=D/\w.heap[D]? =some (.deferred (some []))
 apart:E'.ds.Pairwise λd e=>∀D D',d.target=.collected D->e.target=.collected D'->D≠D'
variable{E:Env}{E':Env}{σ:St}{a:Act}{a':Act}
theorem RR.next{σ':St}(h:RR E E' σ ρ a w)(h':Rel ⟨w,E'.ρ0,E'.Keep,Own σ.M ρ,E'.ds⟩ σ' ρ' a' w'):
  RR E ⟨w,E'.ρ0,E'.Keep,Own σ.M ρ,E'.ds⟩ σ' ρ' a' w':=by
 have hs:=h'.stp;refine⟨h',h.rho,h.kp,⟨hs.os.trans h.stp.os,hs.tape.trans h.stp.tape,h.stp.output.trans hs.output,XB h.stp.size hs.size,λb hb hn=>?_,λb hb=>?_,λk v hk=>?_⟩,λd hd=>?_,h.apart⟩
 ·refine(hs.block b (Xr hb h.stp.size) λho=>?_).trans (h.stp.block b hb hn);exact(h.stp.own b ho).elim hn λhge=>oM
 ·exact(hs.own b hb).elim (h.stp.own b) λhge=>.inr (XB h.stp.size hge)
 ·have:E'.ρ0 k=some v:=by rw[h.rho];exact hk
  exact hs.rho k v this
 ·obtain⟨D,e,hk,hge,hh⟩:=h.marks d hd;exact⟨D,e,hk,hge,(hs.block D (h.rel.mem.kp D hk) λho=>(h.rel.mem.old D ho).2 hk).trans hh⟩
def zks(E:Env)(Q:Ex->St->Prop):Exit->Act->World->Prop
 | .normal,a,w=>∃E' σ ρ,Q .normal σ/\RR E E' σ ρ a w
 | .exit id,a,w=>∃E' σ ρ,Q (.exit id) σ/\RR E E' σ ρ a w
 | .ret,a,w=>∃E' σ ρ,Q .ret σ/\RR E E' σ ρ a w
 | _,_,_=>False
variable{Q:Ex->St->Prop}
theorem zks.of(h:RR E E' σ ρ a w){e:Exit}
  (hp:u3 ⟨w,E'.ρ0,E'.Keep,Own σ.M ρ,E'.ds⟩ Q e a' w'):zks E Q e a' w':=by
 cases e with
 | normal=>obtain⟨σ',ρ',hq,hr⟩:=hp;exact⟨_,σ',ρ',hq,h.next hr⟩
 | exit id=>obtain⟨σ',ρ',hq,hr⟩:=hp;exact⟨_,σ',ρ',hq,h.next hr⟩
 | ret=>obtain⟨σ',ρ',hq,hr⟩:=hp;exact⟨_,σ',ρ',hq,h.next hr⟩
 | _=>exact hp
structure Jc (E:Env) (K0 SB Own0:Nat->Prop) (m nkv:Nat) (w0:World) (ρs:zk) (M:List (Nat×Mem)) (ρj:zk) (W:World):Prop where
 mem:zO (λb=>K0 b∨SB b) M ρj W
 names:∀k v,k < m->ρs k=some v->ρj k=some v
 fresh:∀k,nkv<=k->ρj k=none
 stp:Stp E.W0 (Own M ρj) E.ρ0 ρj E.w0 W
 same:∀b,b < w0.heap.size->¬Own0 b->W.heap[b]? =w0.heap[b]?
 size:w0.heap.size+2<=W.heap.size
 sb:∀b,SB b->w0.heap.size+2<=b
 own:∀b,Own M ρj b->Own0 b∨w0.heap.size+2<=b
 dis:∀b,SB b->¬K0 b
theorem Jc.other {E:Env} {K0 SB SB' Own0:Nat->Prop} {m nkv:Nat} {w0:World} {ρs ρj:zk} {M:List (Nat×Mem)} {W W':World} (h:Jc E K0 SB Own0 m nkv w0 ρs M ρj W) (hp:zkr M)
  (h0:E.w0.heap.size<=w0.heap.size) (hmv:Mv SB SB' W W') (hd:∀b,SB' b->¬(K0 b∨Own M ρj b)/\b < W'.heap.size):Jc E K0 SB' Own0 m nkv w0 ρs M ρj W':=by
 have hz:=h.size
 refine⟨h.mem.other hp hmv λb hb=>⟨λho=>(hd b hb).1 (.inr ho),(hd b hb).2⟩,h.names,h.fresh,
  ⟨hmv.os.trans h.stp.os,hmv.tape.trans h.stp.tape,h.stp.output.trans hmv.output,XB h.stp.size hmv.size,λb hb hn=>?_,h.stp.own,h.stp.rho⟩,
  λb hb hn=>?_,XB h.size hmv.size,λb hb=>?_,h.own,λb hb k=>(hd b hb).1 (.inl k)⟩
 ·exact(hmv.block b oM λhs=>by have:=h.sb b hs;omega).trans (h.stp.block b hb hn)
 ·exact(hmv.block b oM λhs=>by have:=h.sb b hs;omega).trans (h.same b hb hn)
 ·exact(hmv.own b hb).elim (h.sb b) λhge=>oM
theorem zgr:∀{l:List Nat},zde l=true->l.Nodup
 | [],_=>List.nodup_nil
 | k::r,h=>by
  unfold zde at h
  split at h
  ·cases h
  ·rename_i h1;exact List.nodup_cons.2 ⟨λhm=>(by rw[zjm hm]at h1;cases h1),zgr h⟩
theorem zp0 {P:Program} {Γ:List (TypeId×TI)} (hT:TOK P Γ) (hm:P.follows .mixedOrders=true)(hr0:RR E E' σ ρ a w)
  {f:FuncId} {caps:List SV} {vs:List Value} {g:Operand} {ps:Array Tmp} {assign body:Code}
  (hg:a.eval g=.func (.func f) #[] vs.toArray) (hcaps:Ds (λb=>E'.Keep b∨Own σ.M ρ b) w caps vs) (h:ztx P Γ f caps ps.toList assign body σ Q):
  (Code.rangeFunc g ps assign body).wpIn Fence.wide 0 P (zks E Q) a w:=by
 obtain⟨β,enc,ys,m,L,S,nk,⟨hcall,hit⟩,henc,⟨hnd,hlt,hd1,hd2⟩,hsub,⟨hn0,hpf⟩,hpm,hround,hdone⟩:=h;obtain⟨ρs,hrs0⟩:=hsub _ ρ a w hr0.rel.cut;have hown0:∀b,Own (S 0) ρs b->Own σ.M ρ b:=λb hb=>(hrs0.stp.own b hb).resolve_right λhge=>by have:=(hrs0.mem.old b hb).1;have hge:w.heap.size<=b:=hge;omega
 have hr:=hr0.next hrs0
 have hcaps:Ds (λb=>E'.Keep b∨Own (S 0) ρs b) w caps vs:=⟨hcaps.1,λj s v hs hv=>(hcaps.2 j s v hs hv).less λb hb=>hb.imp id (hown0 b)⟩;obtain⟨E1,hE1⟩:∃E1:Env,E1=⟨w,E'.ρ0,E'.Keep,Own σ.M ρ,E'.ds⟩:=⟨_,rfl⟩;have hkeep:E1.Keep=E'.Keep:=by rw[hE1]
 rw[← hE1]at hr;rw[← hkeep]at hcaps;clear hE1 hkeep hrs0 hr0 hsub hown0;have hsz0:=hr.stp.size;refine wpIn_rangeFunc ?_;intro fn _;obtain⟨rec,hrec⟩:∃rec:LoopState->Option Code->Loop,rec=λst pe=>{ state:=st,pending:=pe,fn,tmps:=a.tmps,params:=ps,assign,body,defers:=w.heap.size }:=⟨_,rfl⟩
 obtain⟨l,hl⟩:∃l,l=w.heap.size+1:=⟨_,rfl⟩;obtain⟨D,hD⟩:∃D,D=w.heap.size:=⟨_,rfl⟩;obtain⟨W1,hW1⟩:∃W1,(w.alloc (.deferred (some []))).alloc (.loop (rec .ready none))=W1:=⟨_,rfl⟩
 have hL1:W1.heap[l]? =some (.loop (rec .ready none)):=by
  rw[← hW1,hl];have:=World.alloc_heap_new (w.alloc (.deferred (some []))) (.loop (rec .ready none));rwa [World.size_alloc]at this
 have hK1':W1.heap[D]? =some (.deferred (some [])):=by
  rw[← hW1,hD];exact(RowKit.Below.heap_alloc _ _ _ (by simp)).trans (World.alloc_heap_new w _)
 have hz1:W1.heap.size=w.heap.size+2:=by rw[← hW1];simp
 have hsame1:∀b,b < w.heap.size->W1.heap[b]? =w.heap[b]? :=λb hb=>by
  rw[← hW1];exact(RowKit.Below.heap_alloc _ _ _ (by simp;omega)).trans (RowKit.Below.heap_alloc _ _ _ hb)
 have hout1:qc w W1:=by
  rw[← hW1];refine qc.trans (w':=w.alloc (.deferred (some []))) ⟨rfl,λb=>?_⟩ ⟨rfl,λb=>?_⟩
  ·unfold World.frozen?
   by_cases e:b.block=w.heap.size
   ·rw[e,World.alloc_heap_new];rw[Kl oM]
   ·by_cases h2:b.block < w.heap.size
    ·rw[RowKit.Below.heap_alloc _ _ _ h2]
    ·rw[Kl (by simp;omega),Kl oM]
  ·unfold World.frozen?
   by_cases e:b.block=(w.alloc (.deferred (some []))).heap.size
   ·rw[e,World.alloc_heap_new];rw[Kl oM]
   ·by_cases h2:b.block < (w.alloc (.deferred (some []))).heap.size
    ·rw[RowKit.Below.heap_alloc _ _ _ h2]
    ·rw[Kl (by rw[World.size_alloc];omega),Kl oM]
 have hos1:W1.os=w.os/\W1.tape=w.tape:=by rw[← hW1];exact⟨rfl,rfl⟩
 have hDl:D < l:=oM;have hE0:∀b,b < E.w0.heap.size->b < w.heap.size:=λb hb=>Xr hb hsz0
 obtain⟨K0,hK0⟩:∃K0:Nat->Prop,K0=λb=>E1.Keep b∨b=D∨b=l:=⟨_,rfl⟩
 have hKl:K0 l:=by rw[hK0];exact .inr (.inr rfl)
 have hKD:K0 D:=by rw[hK0];exact .inr (.inl rfl)
 have hK1:∀b,E1.Keep b->K0 b:=λb hb=>by rw[hK0];exact .inl hb
 have hKlt:∀b,K0 b->b < w.heap.size+2:=λb hb=>by
  rw[hK0]at hb
  rcases hb with hb | rfl | rfl
  ·have:=hr.rel.mem.kp b hb;omega
  ·omega
  ·omega
 have hKo:∀b,K0 b->b < w.heap.size->E1.Keep b:=λb hb hlt=>by
  rw[hK0]at hb
  rcases hb with hb | rfl | rfl
  ·exact hb
  ·omega
  ·omega
 have hKe:∀b,K0 b->E1.Keep b∨b=D∨b=l:=λb hb=>by rw[hK0]at hb;exact hb
 clear hK0
 -- what lies in the slots,looked at later
 have regsL:∀{SB:Nat->Prop} {M:List (Nat×Mem)} {nkv:Nat} {ρj:zk} {W:World},Jc E K0 SB (Own (S 0) ρs) m nkv w ρs M ρj W->∀t s,qe L t=some s->
   t < σ.nt/\G (λb=>(K0 b∨SB b)∨Own M ρj b) (Own M ρj) ρj W s (a.tmps.getD t undef):=λ{SB M nkv ρj W} hj t s hl'=>by
  obtain⟨h1,h2⟩:=hr.rel.regs t s hl';obtain⟨p1,p2⟩:=znS hpf hl';have hz:=hj.size;refine⟨h1,(h2.pf (w':=W) oM (λb hb hn=>⟨λhk=>?_,hj.same b hb λho=>hn (.inr ho)⟩) p1).low hj.names p2⟩
  rcases hk with(hk | hk) | hk
  ·exact hn (.inl (hKo b hk hb))
  ·have:=hj.sb b hk;omega
  ·exact(hj.own b hk).elim (λho=>hn (.inr ho)) λhge=>oM
 -- the first round
 have hst1:Stp (Own (S 0) ρs) (Own (S 0) ρs) ρs ρs w W1:=⟨hos1.1,hos1.2,hout1,oM,λb hb _=>hsame1 b hb,λ_ h=>.inl h,λ_ _ h=>h⟩
 have hj0:Jc E K0 (λ_=>False) (Own (S 0) ρs) m (nk 0) w ρs (S 0) ρs W1:=by
  refine⟨?_,λ_ _ _ h=>h,hr.rel.fresh,hr.stp.trans hst1,λb hb _=>hsame1 b hb,oM,λ_ h=>h.elim,λb h=>.inl h,λ_ h=>h.elim⟩
  have hm1:zO E1.Keep (S 0) ρs W1:=⟨λk mm hk=>(hr.rel.mem.rel k mm hk).keep hst1 rfl (λv b hv hb=>hsame1 b (hr.rel.mem.old b ⟨k,mm,v,hk,hv,hb⟩).1),hr.rel.mem.keys,hr.rel.mem.apart,
   λb hb=>⟨by have:=(hr.rel.mem.old b hb).1;omega,(hr.rel.mem.old b hb).2⟩,λb hb=>by have:=hr.rel.mem.kp b hb;omega,hr.rel.mem.glS hst1⟩
  -- two new blocks are kept apart
  refine⟨λk mm hk=>?_,hm1.keys,hm1.apart,λb hb=>⟨(hm1.old b hb).1,λhk=>?_⟩,λb hb=>hb.elim (λhk=>by have:=hKlt b hk;omega) λh=>h.elim,hm1.gl⟩
  ·have hst2:Stp (Own (S 0) ρs) (λb=>Own (S 0) ρs b∨b=D∨b=l) ρs ρs w W1:=⟨hst1.os,hst1.tape,hst1.output,hst1.size,hst1.block,λb hb=>hb.elim .inl λh=>.inr oM,hst1.rho⟩;have hb0:=(hr.rel.mem.rel k mm hk).keep hst2 rfl (λv b hv hb=>hsame1 b (hr.rel.mem.old b ⟨k,mm,v,hk,hv,hb⟩).1);exact hb0.pf (λb hb=>hb.elim (λh=>h.elim (λh=>(hKe b h).imp id .inr) λh=>h.elim) λh=>.inr (.inl h)) (hpm 0 k mm hk)
  ·have hlt:=(hr.rel.mem.old b hb).1;exact hk.elim (λhk=>(hr.rel.mem.old b hb).2 (hKo b hk hlt)) λh=>h
 refine⟨l,[{ target:=.collected D,args:=#[] }],W1,{ target:=.fn (.func f) vs.toArray,args:=#[.func (.yield l) #[] #[]] },W1,f,
  List.toArray (.func (.yield l) #[] #[]::vs),W1,?_,?_,λ_ _=>trivial,?_,ul.wide.need,?_⟩
 ·rw[← hW1,hrec,hl,hD];exact run_enterLoop_outer _ _ _ _ _
 ·simp only[resolve,hg];simp[go_sem]
 ·obtain⟨fn',c1,c2,c3⟩:=hcall;simp only[invoke,callFunc,Sem.run_bind,Sem.run_pure,Result.andThen_ok,run_program,c1,c2,c3,KA,if_false];simp
 refine(hit (λb=>K0 b∨Own (S 0) ρs b) W1 vs l
  (λi SA SB W=>∃ρj,Jc E K0 SB (Own (S 0) ρs) m (nk i) w ρs (S i) ρj W/\(∀b,SA b↔K0 b∨Own (S i) ρj b)/\W.heap[l]? =some (.loop (rec .ready none))/\W.heap[D]? =some (.deferred (some [])))
  (λSA SB W=>∃c M' nk' ρj,Jc E K0 SB (Own (S 0) ρs) m nk' w ρs M' ρj W/\zkr M'/\(∀b,SA b↔K0 b∨Own M' ρj b)/\W.heap[l]? =some (.loop (rec .done (some c)))/\W.heap[D]? =some (.deferred (some []))/\
   ((∃id,c=.exit id/\Q (.exit id) ⟨L,M',nk',σ.nt,σ.n0⟩)∨(c=.ret/\Q .ret ⟨L,M',nk',σ.nt,σ.n0⟩)))
  ?_ (λg v h=>hj0.mem.glc h) ?_ ?_ ?_ ?_ ?_).mono ?_
 ·intro b hb;exact hb.elim (λhk=>by have:=hKlt b hk;omega) λho=>(hj0.mem.old b ho).1
 ·refine⟨hcaps.1,λj s v hs hv=>(hcaps.2 j s v hs hv).mono oM λb hb hn=>⟨λhk=>hk.elim (λhk=>hn (.inl (hKo b hk hb))) λho=>hn (.inr ho),hsame1 b hb⟩⟩
 ·rintro i SA SB SB' W W' ⟨ρj,hj,hSA,hl',hD'⟩ hmv hd
  have hz:=hj.size;refine⟨ρj,hj.other (hpm i) oM hmv λb hb=>⟨λhk=>(hd b hb).1 ((hSA b).2 hk),(hd b hb).2⟩,hSA,?_,?_⟩
  ·exact(hmv.block l oM λhs=>hj.dis l hs hKl).trans hl'
  ·exact(hmv.block D oM λhs=>hj.dis D hs hKD).trans hD'
 ·rintro SA SB SB' W W' ⟨c,M',nk',ρj,hj,hpM,hSA,hl',hD',hc⟩ hmv hd
  have hz:=hj.size;refine⟨c,M',nk',ρj,hj.other hpM oM hmv λb hb=>⟨λhk=>(hd b hb).1 ((hSA b).2 hk),(hd b hb).2⟩,hpM,hSA,?_,?_,hc⟩
  ·exact(hmv.block l oM λhs=>hj.dis l hs hKl).trans hl'
  ·exact(hmv.block D oM λhs=>hj.dis D hs hKD).trans hD'
 ·-- one round
  rintro i y SA SB W args hy ⟨ρj,hj,hSA,hl',hD'⟩ hSAlt hSBd hargs
  have hz:=hj.size;have hlen:args.length=ps.toList.length:=by rw[hargs.1,henc y]
  have hrun:=run_yield (P:=P) (args:=List.toArray args) hl' (by rw[hrec];simp at hlen ⊢;omega);rw[hrec]at hrun
  have hzip:∀A:Array Value,(ps.zip (List.toArray args)).foldl (λtmps (t,a)=>tmps.setIfInBounds t a) A=zcN (ps.toList.zip args) A:=λA=>by
   unfold zcN;rw[← Array.foldl_toList,Array.toList_zip]
  dsimp only at hrun;rw[hzip]at hrun;have hnoL:¬Own (S i) ρj l:=λho=>(hj.mem.old l ho).2 (.inl hKl)
  have hnoD:¬Own (S i) ρj D:=λho=>(hj.mem.old D ho).2 (.inl hKD)
  have hrel:Rel ⟨W,λk=>if k < m then ρj k else none,λb=>K0 b∨SB b,Own (S i) ρj,[]⟩ ⟨zxS ps.toList (enc y) L,S i,nk i,σ.nt,m⟩ ρj { tmps:=zcN (ps.toList.zip args) a.tmps,defers:=[] } W:=by
   refine⟨by rw[zig];exact hr.rel.size,rfl,λt s hlk=>?_,hj.mem,hj.fresh,⟨rfl,rfl,.refl _,Xh _,λ_ _ _=>rfl,λ_ h=>.inl h,λk v hk=>?_⟩,hj.mem.kp,λk v hk=>?_⟩
   ·rcases zmi _ _ _ _ _ (henc y).symm hlk with⟨q,h1,h2⟩ | ⟨h1,h2⟩
    ·have htn:t < σ.nt:=zmj hlt t (Xd h1);have hq:q < args.length:=by have:=(Xc.1 h1).1;omega
     have hzq:(ps.toList.zip args)[q]? =some (t,args[q]):=by
      rw[List.getElem?_zip_eq_some];exact⟨h1,Xb hq⟩
     have hnd':((ps.toList.zip args).map Prod.fst).Nodup:=by
      rw[List.map_fst_zip oM];exact zgr hnd
     refine⟨htn,?_⟩;dsimp only;rw[zmh _ _ hnd' q t _ hzq (by have:=hr.rel.size;simp only at this;omega)];exact .d _ _ ((hargs.2 q s _ h2 (Xb hq)).less λb hb=>hb.elim (λh=>h.elim (λh=>.inl ((hSA b).2 (.inl h))) .inr) λh=>.inl ((hSA b).2 (.inr h)))
    ·obtain⟨g1,g2⟩:=regsL hj t s h2;refine⟨g1,?_⟩;dsimp only;rw[zcO _ _ _ λp hp=>h1 p.1 (List.of_mem_zip hp).1];exact g2
   ·dsimp only at hk
    split at hk
    ·exact hk
    ·cases hk
   ·dsimp only at hk
    split at hk
    ·assumption
    ·cases hk
  refine⟨fn,_,assign,body,hrun,roundIn_of_wpIn trivial ?_⟩;refine wpIn_mono (uZ (ul.wide.inRound l) hT hm assign hd1 hrel (hround i y hy)) (λe a1 w1 hq=>?_)
  cases e with
  | exit id=>obtain⟨_,_,hf,_⟩:=hq;exact hf.elim
  | ret=>obtain⟨_,_,hf,_⟩:=hq;exact hf.elim
  | panic _=>exact hq.elim
  | outgrown=>exact hq.elim
  | goto _=>exact hq.elim
  | normal=>
   obtain⟨σ1,ρ1,hb,hr1⟩:=hq;have hl1:w1.heap[l]? =some (.loop (rec .ready none)):=(hr1.stp.block l (by show l < W.heap.size;omega) hnoL).trans hl';have hD1:w1.heap[D]? =some (.deferred (some [])):=(hr1.stp.block D (by show D < W.heap.size;omega) hnoD).trans hD';refine⟨_,run_beginRound hl1 (by rw[hrec]),?_⟩;have hr2:=hr1.put (o':=.loop { rec .ready none with state:=.busy }) hl1 rfl (by intro _ _ h;cases h);have hz1':W.heap.size<=w1.heap.size:=hr1.stp.size;refine wpIn_mono (uZ (ul.wide.inRound l) hT hm body hd2 hr2 hb) (λe a2 w3 hq=>?_)
   have fin:∀(M':List (Nat×Mem)) (nk':Nat) (ρ3:zk) (jump:Option Code),zkr M'->
     Rel ⟨w1.putObj l (.loop { rec .ready none with state:=.busy }),λk=>if k < m then ρj k else none,λb=>K0 b∨SB b,Own σ1.M ρ1,[]⟩ ⟨[],M',nk',σ.nt,m⟩ ρ3 a2 w3->
     (Instr.endRound l jump).run P w3=.ok (.bool jump.isNone) (w3.putObj l (.loop (rec (if jump.isNone then .ready else .done) jump)))/\
     Jc E K0 SB (Own (S 0) ρs) m nk' w ρs M' ρ3 (w3.putObj l (.loop (rec (if jump.isNone then .ready else .done) jump)))/\
     Mv SA (λb=>K0 b∨Own M' ρ3 b) W (w3.putObj l (.loop (rec (if jump.isNone then .ready else .done) jump)))/\
     (∀b,(K0 b∨Own M' ρ3 b)->¬SB b/\b < (w3.putObj l (.loop (rec (if jump.isNone then .ready else .done) jump))).heap.size)/\
     (w3.putObj l (.loop (rec (if jump.isNone then .ready else .done) jump))).heap[l]? =some (.loop (rec (if jump.isNone then .ready else .done) jump))/\
     (w3.putObj l (.loop (rec (if jump.isNone then .ready else .done) jump))).heap[D]? =some (.deferred (some [])):=by
    intro M' nk' ρ3 jump hpM hr3;have hz3:w1.heap.size<=w3.heap.size:=by have:=hr3.stp.size;rwa [World.putObj_size]at this
    have hlt1:l < w1.heap.size:=(X1.1 hl1).1;have hnoL1:¬Own σ1.M ρ1 l:=λho=>(hr1.mem.old l ho).2 (.inl hKl)
    have hnoD1:¬Own σ1.M ρ1 D:=λho=>(hr1.mem.old D ho).2 (.inl hKD)
    have hl3:w3.heap[l]? =some (.loop { rec .ready none with state:=.busy }):=
     (hr3.stp.block l (by show l < (World.putObj _ _ _).heap.size;rw[World.putObj_size];exact hlt1) hnoL1).trans (World.putObj_heap_same hlt1)
    have hD3:w3.heap[D]? =some (.deferred (some [])):=
     (hr3.stp.block D (by show D < (World.putObj _ _ _).heap.size;rw[World.putObj_size];omega) hnoD1).trans ((World.putObj_heap_other oM).trans hD1)
    have hend:=run_endRound (P:=P) jump hl3;have erec:({ ({ rec .ready none with state:=.busy }:Loop) with state:=if jump.isNone then .ready else .done,pending:=jump }:Loop)=rec (if jump.isNone then .ready else .done) jump:=by rw[hrec]
    rw[erec]at hend;clear erec;have hlt3:l < w3.heap.size:=oM
    have hown3:∀b,Own M' ρ3 b->Own (S i) ρj b∨W.heap.size<=b:=λb ho=>(hr3.stp.own b ho).elim (λh1=>hr1.stp.own b h1) λhge=>by
     have hge:(w1.putObj l (.loop { rec .ready none with state:=.busy })).heap.size<=b:=hge;rw[World.putObj_size]at hge;exact .inr oM
    have hblk:∀b,b < W.heap.size->¬Own (S i) ρj b->b≠l->(w3.putObj l (.loop (rec (if jump.isNone then .ready else .done) jump))).heap[b]? =W.heap[b]? :=λb hb hn hne=>by
     refine(World.putObj_heap_other hne).trans ?_;refine(hr3.stp.block b (by show b < (World.putObj _ _ _).heap.size;rw[World.putObj_size];omega) λh1=>(hr1.stp.own b h1).elim hn λhge=>?_).trans ?_
     ·have hge:W.heap.size<=b:=hge;omega
     ·exact(World.putObj_heap_other hne).trans (hr1.stp.block b hb hn)
    have hout:qc W (w3.putObj l (.loop (rec (if jump.isNone then .ready else .done) jump))):=
     hr1.stp.output.trans ((qc.put hl1 rfl rfl).trans (hr3.stp.output.trans (qc.put hl3 rfl rfl)))
    have hos:w3.os=W.os:=hr3.stp.os.trans hr1.stp.os;have htape:w3.tape=W.tape:=hr3.stp.tape.trans hr1.stp.tape;have hmem:zO (λb=>K0 b∨SB b) M' ρ3 (w3.putObj l (.loop (rec (if jump.isNone then .ready else .done) jump))):=hr3.mem.put hl3 rfl (by intro _ _ h;cases h);have hname:∀k v,k < m->ρs k=some v->ρ3 k=some v:=λk v hk hv=>hr3.stp.rho k v (by show(if k < m then ρj k else none)=some v;rw[if_pos hk];exact hj.names k v hk hv)
    refine⟨hend,⟨hmem,hname,hr3.fresh,⟨hos.trans hj.stp.os,htape.trans hj.stp.tape,hj.stp.output.trans hout,?_,λb hb hn=>?_,λb ho=>?_,λk v hv=>?_⟩,λb hb hn=>?_,?_,hj.sb,λb ho=>?_,hj.dis⟩,
     ⟨⟨hos,htape,hout,?_,λb hb hn=>?_,λb hb=>?_,λ_ _ h=>h⟩,λg v h _=>hmem.glc h⟩,λb hb=>?_,World.putObj_heap_same hlt3,(World.putObj_heap_other oM).trans hD3⟩
    ·have:=hj.stp.size;rw[World.putObj_size];omega
    ·have hb':=hE0 b hb;exact(hblk b oM (λho=>(hj.stp.own b ho).elim hn λhge=>by omega) oM).trans (hj.stp.block b hb hn)
    ·exact(hown3 b ho).elim (hj.stp.own b) λhge=>.inr (by have:=hj.stp.size;omega)
    ·have h1:k < σ.n0:=hr.rel.low k v (by rw[hr.rho];exact hv);exact hname k v oM (hr.stp.rho k v hv)
    ·exact(hblk b oM (λho=>(hj.own b ho).elim hn λhge=>by omega) oM).trans (hj.same b hb hn)
    ·rw[World.putObj_size];omega
    ·exact(hown3 b ho).elim (hj.own b) λhge=>.inr oM
    ·rw[World.putObj_size];omega
    ·exact hblk b hb (λho=>hn ((hSA b).2 (.inr ho))) λe=>hn ((hSA b).2 (.inl (e ▸ hKl)))
    ·exact hb.elim (λhk=>.inl ((hSA b).2 (.inl hk))) λho=>(hown3 b ho).imp (λh=>(hSA b).2 (.inr h)) id
    ·exact hb.elim (λhk=>⟨λhs=>hj.dis b hs hk,hmem.kp b (.inl hk)⟩) λho=>⟨λhs=>(hmem.old b ho).2 (.inr hs),(hmem.old b ho).1⟩
   cases e with
   | normal=>
    obtain⟨σ2,ρ2,hs2,hr3⟩:=hq;obtain⟨ρ3,hr3⟩:=hs2 _ ρ2 a2 w3 hr3;obtain⟨f1,f2,f3,f4,f5,f6⟩:=fin _ _ ρ3 none (hpm (i+1)) hr3;exact⟨_,_,f1,λb=>K0 b∨Own (S (i+1)) ρ3 b,f3,f4,.inl ⟨rfl,ρ3,f2,λb=>K7,f5,f6⟩⟩
   | ret=>
    obtain⟨σ2,ρ2,⟨M',nk',hs2,hpM,hQ⟩,hr3⟩:=hq;obtain⟨ρ3,hr3⟩:=hs2 _ ρ2 a2 w3 hr3;obtain⟨f1,f2,f3,f4,f5,f6⟩:=fin _ _ ρ3 (some .ret) hpM hr3;exact⟨_,_,f1,λb=>K0 b∨Own M' ρ3 b,f3,f4,.inr ⟨rfl,.ret,M',nk',ρ3,f2,hpM,λb=>K7,f5,f6,.inr ⟨rfl,hQ⟩⟩⟩
   | exit id=>
    obtain⟨σ2,ρ2,⟨M',nk',hs2,hpM,hQ⟩,hr3⟩:=hq;obtain⟨ρ3,hr3⟩:=hs2 _ ρ2 a2 w3 hr3;obtain⟨f1,f2,f3,f4,f5,f6⟩:=fin _ _ ρ3 (some (.exit id)) hpM hr3;exact⟨_,_,f1,λb=>K0 b∨Own M' ρ3 b,f3,f4,.inr ⟨rfl,.exit id,M',nk',ρ3,f2,hpM,λb=>K7,f5,f6,.inl ⟨id,rfl,hQ⟩⟩⟩
   | goto _=>exact hq.elim
   | panic _=>exact hq.elim
   | outgrown=>exact hq.elim
 ·exact⟨ρs,hj0,λb=>K7,hL1,hK1'⟩
 -- behind the iterator
 have finR:∀(M':List (Nat×Mem)) (nk':Nat) (ρj:zk) (SB:Nat->Prop) (W2:World) (r r':Loop),zkr M'->Jc E K0 SB (Own (S 0) ρs) m nk' w ρs M' ρj W2->W2.heap[l]? =some (.loop r)->W2.heap[D]? =some (.deferred (some []))->
   RR E ⟨W2.putObj l (.loop r'),E1.ρ0,λb=>E1.Keep b∨b=D,Own M' ρj,{ target:=.collected D,args:=#[] }::E1.ds⟩ ⟨L,M',nk',σ.nt,σ.n0⟩ ρj { a with defers:=[{ target:=.collected D,args:=#[] }]++a.defers } (W2.putObj l (.loop r')):=by
  intro M' nk' ρj SB W2 r r' hpM hj hl' hD';have hz:=hj.size
  have hnm:∀k v,E1.ρ0 k=some v->ρj k=some v:=λk v hv=>by
   have h1:k < σ.n0:=hr.rel.low k v hv;rw[hr.rho]at hv;exact hj.names k v oM (hr.stp.rho k v hv)
  have hmem:zO (λb=>E1.Keep b∨b=D) M' ρj (W2.putObj l (.loop r')):=(hj.mem.put hl' rfl (by intro _ _ h;cases h)).few hpM λb hb=>.inl (hb.elim (hK1 b) λe=>e ▸ hKD)
  refine⟨⟨hr.rel.size,?_,λt s hlk=>?_,hmem,hj.fresh,⟨rfl,rfl,.refl _,Xh _,λ_ _ _=>rfl,λ_ h=>.inl h,hnm⟩,hmem.kp,hr.rel.low⟩,hr.rho,λb hb=>.inl (hr.kp b hb),
   ⟨hj.stp.os,hj.stp.tape,hj.stp.output.trans (qc.put hl' rfl rfl),?_,λb hb hn=>?_,hj.stp.own,hj.stp.rho⟩,λd hd=>?_,?_⟩
  ·show[_]++a.defers=_::E1.ds;rw[hr.rel.defers];rfl
  ·obtain⟨g1,g2⟩:=regsL hj t s hlk;exact⟨g1,(g2.put hl' rfl).pf (Xh _) (λb _ hn=>⟨λhk=>hn (hk.elim (λh=>.inl (.inl (h.elim (hK1 b) λe=>e ▸ hKD))) .inr),rfl⟩) (znS hpf hlk).1⟩
  ·rw[World.putObj_size];exact hj.stp.size
  ·have hb':=hE0 b hb;exact(World.putObj_heap_other oM).trans (hj.stp.block b hb hn)
  ·cases hd with
   | head=>exact⟨D,rfl,.inr rfl,oM,(World.putObj_heap_other oM).trans hD'⟩
   | tail _ hd=>
    obtain⟨D',e,hk,hge,hh⟩:=hr.marks d hd;have hlt':=hr.rel.mem.kp D' hk;exact⟨D',e,.inl hk,hge,(World.putObj_heap_other oM).trans ((hj.same D' hlt' λho=>(hr.rel.mem.old D' ho).2 hk).trans hh)⟩
  ·refine X4.2 ⟨λe he D1 D2 h1 h2=>?_,hr.apart⟩;obtain⟨D',rfl,hk,_,_⟩:=hr.marks e he;have hlt':=hr.rel.mem.kp D' hk
   cases h1
   cases h2
   omega
 rintro e W2 ⟨⟨v,rfl⟩,SA',SB',(⟨ρj,hj,_,hl',hD'⟩ | ⟨c,M',nk',ρj,hj,hpM,_,hl',hD',hc⟩)⟩
 ·have he:=run_endLoop (P:=P) hl' (by rw[hrec];simp);have hpn:(rec .ready none).pending=none:=by rw[hrec]
  rw[hpn]at he;exact⟨none,_,he,_,_,ρj,hdone,finR _ _ ρj SB' W2 _ _ (hpm _) hj hl' hD'⟩
 ·have he:=run_endLoop (P:=P) hl' (by rw[hrec];simp);have hpn:(rec .done (some c)).pending=some c:=by rw[hrec]
  rw[hpn]at he;refine⟨some c,_,he,?_⟩
  rcases hc with⟨id,rfl,hQ⟩ | ⟨rfl,hQ⟩
  ·exact wpIn_exit ⟨_,_,ρj,hQ,finR _ _ ρj SB' W2 _ _ hpM hj hl' hD'⟩
  ·exact wpIn_ret ⟨_,_,ρj,hQ,finR _ _ ρj SB' W2 _ _ hpM hj hl' hD'⟩
end
end Go.Gs
