/- A joint, both texts. -/
import Derived.Test.YtkngjacccoklaaaGreatDoorMA
import Derived.Test.YtkngjacccoklaaaGreatDoorMAS
import Derived.Test.YtkngjacccoklaaaGreatDoorMAK
import Derived.RangeFuncRecord
import Derived.OrdersIn
import Derived.TacticsIn
set_option maxRecDepth 100000
set_option maxHeartbeats 8000000
set_option linter.all false
namespace Go.Gs
open Go.Proofs
def zi0{w:Int}{p:Pt}(hw:ki w)(h:zgC w p):zr p:=by unfold ki at hw;unfold zgC at h;unfold zr;omega
def ztV(n m:Pt)(w lim:Int):S50 (uX n m w lim).1.x/\S50 (uX n m w lim).1.y:=by
 unfold uX
 split
 ·exact⟨dC,dC⟩
 rename_i h;obtain⟨hn,hm,hw,_⟩:=Xa.1 h;have hs:=zhH hn hm;dsimp only
 split
 ·exact⟨dC,dC⟩
 generalize zA n m=s at*;have t:=zce hs.1 hw;have t':=zce hs.2 hw;exact⟨uY (M:=1125899906842624) oM,uY (M:=1125899906842624) oM⟩
def ztW{a v b:Pt}{p:Pen}(h:kC p/\zr a/\zr v/\zr b/\¬v=a/\¬v=b):qY a v b p=
  if p.j=3 then kN (vF v p.w) else if (qp a v b p.w).2.2=false then[]
  else kN (kE (if p.j=1/\(uX (qp a v b p.w).1 (qp a v b p.w).2.1 p.w p.m).2=true then[v,zA v (qp a v b p.w).1,zA v (uX (qp a v b p.w).1 (qp a v b p.w).2.1 p.w p.m).1,zA v (qp a v b p.w).2.1]
   else[v,zA v (qp a v b p.w).1,zA v (qp a v b p.w).2.1])):=by
 unfold qY;rw[kH h]
def zDR(a v b:Pt)(p:Pen):CG0 346 [.agg (ptE a),.agg (ptE v),.agg (ptE b),.agg (jb p)] [] (.sl zk (qY a v b p)) []:=by
 refine zc Tryz.func346 ?_
 have bad:¬(kC p/\zr a/\zr v/\zr b/\¬v=a/\¬v=b)->LE (.val (.slice none 0 0)) (.sl zk (qY a v b p)):=λh=>by
  unfold qY;rw[Xe h];exact zD
 refine zb.t (zey p)<|⟨λa1=>bad (λh=>a1 h.1),λa1=>?_⟩;refine zb.t (k8 a)<|⟨λa2=>bad (λh=>a2 h.2.1),λa2=>?_⟩;refine zb.t (k8 v)<|⟨λa3=>bad (λh=>a3 h.2.2.1),λa3=>?_⟩;refine zb.t (k8 b)<|⟨λa4=>bad (λh=>a4 h.2.2.2.1),λa4=>?_⟩;refine⟨λa5=>bad (λh=>h.2.2.2.2.1 (qi.1 a5)),λa5=>?_⟩;refine⟨λa6=>bad (λh=>h.2.2.2.2.2 (qi.1 a6)),λa6=>?_⟩
 have hok:kC p/\zr a/\zr v/\zr b/\¬v=a/\¬v=b:=
  ⟨Xa.1 a1,Xa.1 a2,Xa.1 a3,Xa.1 a4,λe=>a5 (qi.2 e),λe=>a6 (qi.2 e)⟩
 have hv:=hok.2.2.1;have hw:=hok.1.1;have e:=ztW hok;refine⟨λj1=>?_,λj1=>?_⟩
 ·have j1:p.j=3:=j1;exact zb.t (zsl v p.w)<|zb.t (zog (vF v p.w))<|z0 (e.trans (Xe j1)).symm
 have j1:¬p.j=3:=j1;rw[Xc j1]at e;refine zb.t (zAL a v b p.w)<|⟨λk=>?_,λk=>?_⟩
 ·have k:¬(qp a v b p.w).2.2=true:=k;rw[Xe (by simpa using k)]at e;rw[e];exact zD
 have k:(qp a v b p.w).2.2=true:=Xa.1 k;rw[Xc (by rw[k];decide)]at e;have oh:=zkD (a:=a) (v:=v) (b:=b) hw;have o1:=zi0 hw oh.1;have o2:=zi0 hw oh.2;generalize (qp a v b p.w).1=n at*;generalize (qp a v b p.w).2.1=m at*;refine Dr.d<|zb.t (zeC v n hv.p45.s o1.p45.s)<|⟨Pt,ptE,[v,zA v n],rfl,Ob.o0 ?_⟩;refine Ob.mk (by kernel_rfl) ?_
 have tail:∀(q:List Pt),(¬(p.j=1/\(uX n m p.w p.m).2=true))->q=[v,zA v n,zA v m]->LE (.sl zk (kN (kE q))) (.sl zk (qY a v b p)):=λq h hq=>by
  rw[e,Xc h,hq];exact .refl
 refine⟨λj2=>?_,λj2=>?_⟩
 ·have j2:p.j=1:=j2;refine zb.t (p_tip n m p.w p.m) ?_;have ht:=ztV n m p.w p.m;refine⟨λs1=>?_,λs1=>?_⟩
  ·refine zb.t (zeC v (uX n m p.w p.m).1 hv.p45.s ht)<|⟨Pt,ptE,[zA v (uX n m p.w p.m).1],rfl,Ob.o0 ?_⟩;refine⟨[zA v (uX n m p.w p.m).1],rfl,Ob.o8 ?_⟩;refine zb.t (zeC v m hv.p45.s o2.p45.s)<|⟨Pt,ptE,[zA v m],rfl,Ob.o0 ?_⟩;refine⟨[zA v m],rfl,Ob.o22 ?_⟩;refine zb.see 11 _ (zbj [v,zA v n,zA v (uX n m p.w p.m).1,zA v m] (by show((4:Nat):Int)<=_;decide)) rfl rfl rfl<|zb.t (zog (kE [v,zA v n,zA v (uX n m p.w p.m).1,zA v m])) ?_;rw[e,Xe ⟨j2,s1⟩];exact .refl
  refine zb.t (zeC v m hv.p45.s o2.p45.s)<|⟨Pt,ptE,[zA v m],rfl,Ob.o0 ?_⟩;refine⟨[zA v m],rfl,Ob.o8 ?_⟩;exact zb.see 9 _ (zbj [v,zA v n,zA v m] (by show((3:Nat):Int)<=_;decide)) rfl rfl rfl<|zb.t (zog (kE [v,zA v n,zA v m]))<|tail _ (λh=>s1 h.2) rfl
 have j2:¬p.j=1:=j2;refine zb.t (zeC v m hv.p45.s o2.p45.s)<|⟨Pt,ptE,[zA v m],rfl,Ob.o0 ?_⟩;refine⟨[zA v m],rfl,Ob.o8 ?_⟩;exact zb.see 8 _ (zbj [v,zA v n,zA v m] (by show((3:Nat):Int)<=_;decide)) rfl rfl rfl<|zb.t (zog (kE [v,zA v n,zA v m]))<|tail _ (λh=>j2 h.1) rfl
def zDS(a v b:Pt)(p:Pen):CG0 363 [.agg (ptE a),.agg (ptE v),.agg (ptE b),.agg (jb p)] [] (.sl zk (qY a v b p)) []:=by
 refine zc Tryz.func363 ?_
 have bad:¬(kC p/\zr a/\zr v/\zr b/\¬v=a/\¬v=b)->LE (.val (.slice none 0 0)) (.sl zk (qY a v b p)):=λh=>by
  unfold qY;rw[Xe h];exact zD
 refine zb.t (zcM p)<|⟨λa1=>bad (λh=>a1 h.1),λa1=>?_⟩;refine zb.t (z9 a)<|⟨λa2=>bad (λh=>a2 h.2.1),λa2=>?_⟩;refine zb.t (z9 v)<|⟨λa3=>bad (λh=>a3 h.2.2.1),λa3=>?_⟩;refine zb.t (z9 b)<|⟨λa4=>bad (λh=>a4 h.2.2.2.1),λa4=>?_⟩;refine⟨λa5=>bad (λh=>h.2.2.2.2.1 (qi.1 a5)),λa5=>?_⟩;refine⟨λa6=>bad (λh=>h.2.2.2.2.2 (qi.1 a6)),λa6=>?_⟩
 have hok:kC p/\zr a/\zr v/\zr b/\¬v=a/\¬v=b:=
  ⟨Xa.1 a1,Xa.1 a2,Xa.1 a3,Xa.1 a4,λe=>a5 (qi.2 e),λe=>a6 (qi.2 e)⟩
 have hv:=hok.2.2.1;have hw:=hok.1.1;have e:=ztW hok
 have fin:∀(r:List Pt),qY a v b p=kN r->((r.length:Int)=0->LE (.val (.slice none 0 0)) (.sl zk (qY a v b p)))/\(¬(r.length:Int)=0->qY a v b p=[r]):=λr hr=>by
  refine⟨λh=>?_,λh=>?_⟩
  ·have:r=[]:=Xp oM;rw[hr,this];exact zD
  rw[hr];unfold kN;rw[Xc (λk=>h (by rw[k];rfl))]
 refine⟨λj1=>?_,λj1=>?_⟩
 ·have j1:p.j=3:=j1;refine zb.t (zsk v p.w) ?_;intro hl;have f:=fin _ (e.trans (Xe j1));refine⟨λz=>f.1 z,λz=>?_⟩;refine⟨List Pt,zk,[vF v p.w],rfl,Ob.o0 ?_⟩;exact z0 (f.2 z).symm
 have j1:¬p.j=3:=j1;rw[Xc j1]at e;refine zb.t (zAM a v b p.w)<|⟨λk=>?_,λk=>?_⟩
 ·have k:¬(qp a v b p.w).2.2=true:=k;rw[Xe (by simpa using k)]at e;rw[e];exact zD
 have k:(qp a v b p.w).2.2=true:=Xa.1 k;rw[Xc (by rw[k];decide)]at e;have oh:=zkD (a:=a) (v:=v) (b:=b) hw;have o1:=zi0 hw oh.1;have o2:=zi0 hw oh.2;generalize (qp a v b p.w).1=n at*;generalize (qp a v b p.w).2.1=m at*;refine zb.t (r_tip n m p.w p.m) ?_;have ht:=ztV n m p.w p.m;have cn:=zxN v n;rw[zkv hv o1]at cn;have cm:=zxN v m;rw[zkv hv o2]at cm;refine Dr.d<|zb.t cn<|⟨Pt,ptE,[v,zA v n],rfl,Ob.o0 ?_⟩;refine Ob.mk (by kernel_rfl) ?_
 have plain:(¬(p.j=1/\(uX n m p.w p.m).2=true))->qY a v b p=kN (kE [v,zA v n,zA v m]):=λh=>by
  rw[e,Xc h]
 refine⟨λj2=>?_,λj2=>?_⟩
 ·have j2:p.j=1:=j2;refine⟨λs1=>?_,λs1=>?_⟩
  ·unfold zr at hv;(iterate 2 refine Ar.o ?_);refine⟨Pt,ptE,[zA v (uX n m p.w p.m).1],rfl,Ob.o0 ?_⟩;refine⟨[zA v (uX n m p.w p.m).1],rfl,Ob.o8 ?_⟩;refine zb.t cm<|⟨Pt,ptE,[zA v m],rfl,Ob.o0 ?_⟩;refine⟨[zA v m],rfl,Ob.o22 ?_⟩;refine zb.see 11 _ (zbi [v,zA v n,zA v (uX n m p.w p.m).1,zA v m]) rfl rfl rfl ?_;intro hl;have f:=fin (kE [v,zA v n,zA v (uX n m p.w p.m).1,zA v m]) (by rw[e,Xe ⟨j2,s1⟩]);refine⟨λz=>f.1 z,λz=>?_⟩;refine⟨List Pt,zk,[kE [v,zA v n,zA v (uX n m p.w p.m).1,zA v m]],rfl,Ob.o0 ?_⟩
   exact z0 (f.2 z).symm
  refine zb.t cm<|⟨Pt,ptE,[zA v m],rfl,Ob.o0 ?_⟩;refine⟨[zA v m],rfl,Ob.o8 ?_⟩;refine zb.see 9 _ (zbi [v,zA v n,zA v m]) rfl rfl rfl ?_;intro hl;have f:=fin (kE [v,zA v n,zA v m]) (plain λh=>s1 h.2);refine⟨λz=>f.1 z,λz=>?_⟩;refine⟨List Pt,zk,[kE [v,zA v n,zA v m]],rfl,Ob.o0 ?_⟩;exact z0 (f.2 z).symm
 have j2:¬p.j=1:=j2;refine zb.t cm<|⟨Pt,ptE,[zA v m],rfl,Ob.o0 ?_⟩;refine⟨[zA v m],rfl,Ob.o8 ?_⟩;refine zb.see 9 _ (zbi [v,zA v n,zA v m]) rfl rfl rfl ?_;intro hl;have f:=fin (kE [v,zA v n,zA v m]) (plain λh=>j2 h.1);refine⟨λz=>f.1 z,λz=>?_⟩;refine⟨List Pt,zk,[kE [v,zA v n,zA v m]],rfl,Ob.o0 ?_⟩;exact z0 (f.2 z).symm
def zkE{l:List Pl}{i:Nat}{x:Pl}(h:l[i]?=some x):uA (l.take (i+1))=uA (l.take i)++if 3<=x.pts.length then[x.pts] else[]:=by
 unfold uA;rw[Xl,h]
 by_cases c:3<=x.pts.length
 ·simp[c]
 simp[c]
def zqr(l:List Pl):(uA l).length<=l.length:=by
 unfold uA;rw[Xx];exact KY _ _
def zyi(l:List Pl)(hl:l.length<=4096)(hp:∀q∈l,q.pts.length<=4096):CG0 128 [.sl plE l] [] (.sl zk (uA l)) []:=by
 refine zc Tryz.func128 ?_;intro hl1;refine⟨Nat,λi=>⟨[(3,.own 0),(6,.sl plE l),(7,i64 (l.length:Int)),(8,i64 (i:Int))],[(0,.arr 127 zk 1 (uA (l.take i)))],1,24,0⟩,λi=>i<=l.length,λi=>l.length-i,0,?_,?_,?_⟩
 ·exact Xh _
 ·exact zC [(0,none)]
 rintro i hi
 have hlen:=zqr (l.take i);rw[Xo]at hlen;refine⟨λg=>?_,λg=>?_⟩
 ·have g:(i:Int)<l.length:=g;refine Ob.o ?_;intro x hx;have hx:l[i]?=some x:=hx;intro hl3;have e:=zkE hx;refine⟨λc=>?_,λc=>?_⟩
  ·have c:(3:Int)<=x.pts.length:=c;refine zb.t ((zoe x.pts (hp x (Xf hx))).plain rfl)<|⟨List Pt,zk,[x.pts],rfl,Ob.o0 ?_⟩;refine⟨[x.pts],rfl,Ob.o14 ?_⟩;refine Ar.o<|⟨i+1,oM,zu [3] ⟨Xg (λq=>some (Mem.arr 127 zk 1 q)) ?_,trivial⟩,by dsimp only;omega⟩;rw[e,Xe oM]
  have c:¬(3:Int)<=x.pts.length:=c;refine Ar.o<|⟨i+1,oM,zu [0] ⟨Xg (λq=>some (Mem.arr 127 zk 1 q)) ?_,trivial⟩,by dsimp only;omega⟩;rw[e,Xc oM,XE]
 have g:¬(i:Int)<l.length:=g;exact z0 (by rw[Xi oM])
def zyj(l:List Pl)(hl:l.length<=4096)(hp:∀q∈l,q.pts.length<=4096):CG0 98 [.sl plE l] [] (.sl zk (uA l)) []:=by
 refine zc Tryz.func98 ?_;refine⟨List Pt,zk,[],rfl,Ob.o2 ?_⟩;refine⟨Nat,λi=>⟨[(3,.own 0),(0,.sl plE l),(4,i64 (i:Int))],[(0,.arr 127 zk 1 (uA (l.take i)))],1,29,0⟩,λi=>i<=l.length,λi=>l.length-i,0,?_,?_,?_⟩
 ·exact Xh _
 ·exact zf [0]
 rintro i hi
 have hlen:=zqr (l.take i);rw[Xo]at hlen;intro hl1;refine⟨λg=>?_,λg=>?_⟩
 ·have g:(i:Int)<l.length:=g;refine Ob.o ?_;intro x hx;have hx:l[i]?=some x:=hx;intro hl3;have e:=zkE hx;refine⟨λc=>?_,λc=>?_⟩
  ·have c:(3:Int)<=x.pts.length:=c;refine Ob.o ?_;intro y hy;have ey:y=x:=Xm ((show l[i]?=some y from hy).symm.trans hx);rw[ey];refine zb.t (zqc x.pts (hp x (Xf hx)))<|⟨List Pt,zk,[x.pts],rfl,Ob.o0 ?_⟩;refine⟨[x.pts],rfl,Ob.o14 ?_⟩;refine Ar.o<|⟨i+1,oM,zu [2] ⟨Xg (λq=>some (Mem.arr 127 zk 1 q)) ?_,trivial⟩,by dsimp only;omega⟩;rw[e,Xe oM]
  have c:¬(3:Int)<=x.pts.length:=c;refine Ar.o<|⟨i+1,oM,zu [0] ⟨Xg (λq=>some (Mem.arr 127 zk 1 q)) ?_,trivial⟩,by dsimp only;omega⟩;rw[e,Xc oM,XE]
 have g:¬(i:Int)<l.length:=g;exact z0 (by rw[Xi oM])
def zaX{a b c:Int}(ha: -1048576<=a/\a<=1048576)(hb: -1048576<=b/\b<=1048576)(hc: -1048576<=c/\c<=1048576):
  (-4194304<=a-2*b+c/\a-2*b+c<=4194304)/\0<=(a-2*b+c)*(a-2*b+c)/\(a-2*b+c)*(a-2*b+c)<=17592186044416:=by
 have h: -4194304<=a-2*b+c/\a-2*b+c<=4194304:=oM;have h1:=ju (A:=4194304) (B:=4194304) h h;have h2:=ja (a-2*b+c);omega
def vR{a b c:Pt}(ha:zr a)(hb:zr b)(hc:zr c):0<=yl a b c/\yl a b c<=35184372088832:=by
 have h1:=zaX ha.1 hb.1 hc.1;have h2:=zaX ha.2 hb.2 hc.2;unfold yl;omega
def zkF(a b c:Pt)(ha:zr a)(hb:zr b)(hc:zr c):CG0 392 [.agg (ptE a),.agg (ptE b),.agg (ptE c)] [] (i64 (yl a b c)) []:=by
 have h1:=zaX ha.1 hb.1 hc.1;have h2:=zaX ha.2 hb.2 hc.2;unfold zr at ha hb hc;refine zc Tryz.func392 ?_;refine Dr.k ?_;(iterate 9 refine Ar.o ?_);exact .refl
def zsp(a b c:Pt)(ha:zr a)(hb:zr b)(hc:zr c):CG0 463 [.agg (ptE a),.agg (ptE b),.agg (ptE c)] [] (i64 (yl a b c)) []:=by
 have h1:=zaX ha.1 hb.1 hc.1;have h2:=zaX ha.2 hb.2 hc.2;unfold zr at ha hb hc;refine zc Tryz.func463 ?_;(iterate 9 refine Ar.o ?_);exact .refl
def zfD{need tol:Int}{i:Nat}(h:i<=64):yC need tol (65-i) i=if enough need tol i then((i:Int),0) else yC need tol (65-(i+1)) (i+1):=by
 rw[show 65-i=(64-i)+1 by omega,yC,show 65-(i+1)=64-i by omega]
def zfE{i:Nat}{tol:Int}(hi:i<=64)(ht:1<=tol/\tol<=256):
  (-65536<=16*(i:Int)*i/\16*(i:Int)*i<=65536)/\(-4194304<=16*(i:Int)*i*i/\16*(i:Int)*i*i<=4194304)/\
  (-268435456<=16*(i:Int)*i*i*i/\16*(i:Int)*i*i*i<=268435456)/\(-68719476736<=16*(i:Int)*i*i*i*tol/\16*(i:Int)*i*i*i*tol<=68719476736)/\
  (-17592186044416<=16*(i:Int)*i*i*i*tol*tol/\16*(i:Int)*i*i*i*tol*tol<=17592186044416):=by
 have h2:=ju (A:=1024) (B:=64) (a:=16*(i:Int)) (b:=i) oM oM;have h3:=ju (A:=65536) (B:=64) (a:=16*(i:Int)*i) (b:=i) oM oM;have h4:=ju (A:=4194304) (B:=64) (a:=16*(i:Int)*i*i) (b:=i) oM oM;have h5:=ju (A:=268435456) (B:=256) (a:=16*(i:Int)*i*i*i) (b:=tol) oM oM;have h6:=ju (A:=68719476736) (B:=256) (a:=16*(i:Int)*i*i*i*tol) (b:=tol) oM oM;omega
def ziv(c:Int×Int):SV:=.tup [i64 c.1,i64 c.2]
def ur{c:Int×Int}{a b:Int}(h:c=(a,b)):LE (.tup [i64 a,i64 b]) (ziv c):=by subst h;exact .refl
def zqs(need tol:Int)(l:List Pt)(hl:l.length<=4):CG0 391 [i64 need,i64 tol,.sl ptE l] [] (ziv (kY need tol l)) []:=by
 refine zc Tryz.func391 ?_;have bad:¬(1<=tol/\tol<=256)->kY need tol l=(0,2):=λh=>by unfold kY;rw[Xe h]
 refine⟨λa1=>ur (bad (λh=>by have a1:tol<1:=a1;omega)),λa1=>?_⟩;refine⟨λa2=>ur (bad (λh=>by have a2:256<tol:=a2;omega)),λa2=>?_⟩;have ht:1<=tol/\tol<=256:=⟨by have a1:¬tol<1:=a1;omega,by have a2:¬256<tol:=a2;omega⟩;intro hl2;refine⟨Nat,λi=>⟨[(0,i64 need),(1,i64 tol),(17,.sl ptE l),(18,i64 (l.length:Int)),(19,i64 (i:Int))],[],0,46,0⟩,λi=>i<=l.length/\∀p∈l.take i,zr p,λi=>l.length-i,0,?_,?_,?_⟩
 ·exact⟨Xh _,λp hp=>by cases hp⟩
 ·exact zC []
 rintro i ⟨h1,h2⟩
 refine⟨λg=>?_,λg=>?_⟩
 ·have g:(i:Int)<l.length:=g;refine Ob.o ?_;intro x hx;have hx:l[i]?=some x:=hx;refine zb.t (k8 x)<|⟨λb=>?_,λb=>?_⟩
  ·refine ur ?_;unfold kY;rw[kH ht,Xe (λk=>b (k x (Xf hx)))]
  have b:=Xa.1 b;refine Ar.o<|⟨i+1,⟨oM,λp hp=>?_⟩,zC [],by dsimp only;omega⟩;rw[Xl,hx]at hp
  rcases Xs.1 hp with hp|hp
  ·exact h2 p hp
  simp at hp;rw[hp];exact b
 have g:¬(i:Int)<l.length:=g;have hv:∀p∈l,zr p:=by rw[Xi oM]at h2;exact h2
 have e:kY need tol l=yC need tol 64 1:=by unfold kY;rw[kH ht,kH hv]
 refine⟨Nat,λi=>⟨[(0,i64 need),(1,i64 tol),(10,i64 (i:Int))],[],0,46,0⟩,λi=>1<=i/\i<=65/\yC need tol (65-i) i=yC need tol 64 1,λi=>65-i,1,?_,?_,?_⟩
 ·exact⟨dC,dC,rfl⟩
 ·exact zC []
 rintro i ⟨h3,h4,h5⟩
 refine⟨λg=>?_,λg=>?_⟩
 ·have g:(i:Int)<=64:=g;have ch:=zfE (i:=i) oM ht;have st:=zfD (need:=need) (tol:=tol) (i:=i) oM;rw[h5]at st;(iterate 6 refine Ar.o ?_);refine⟨λk=>?_,λk=>?_⟩
  ·have k:enough need tol i:=k;exact ur (by rw[e,st,Xe k])
  have k:¬enough need tol i:=k;refine Ar.o ?_;refine⟨i+1,⟨oM,oM,by rw[st,Xc k]⟩,zC [],by dsimp only;omega⟩
 have g:¬(i:Int)<=64:=g;have h6:i=65:=oM;subst h6;exact ur (by rw[e,←h5];rfl)
def zyk(tol:Int):CG0 143 [i64 tol] [] (pr (ze9 tol)) []:=by
 refine zc Tryz.func143 ?_;refine⟨λh=>?_,λh=>zd (λk=>h k.1)⟩;exact zE ⟨λk=>⟨h,k⟩,λk=>k.2⟩
def zok(l:List Pt):CG0 417 [.sl ptE l] [] (pr (∀p∈l,zr p)) []:=by
 refine zc Tryz.func417 ?_;refine⟨Nat,λi=>⟨[(0,.sl ptE l),(3,i64 (i:Int))],[],0,16,0⟩,λi=>i<=l.length/\∀p∈l.take i,zr p,λi=>l.length-i,0,?_,?_,?_⟩
 ·exact⟨Xh _,λp hp=>by cases hp⟩
 ·exact zC []
 rintro i ⟨h1,h2⟩
 intro hl1;refine⟨λg=>?_,λg=>?_⟩
 ·have g:(i:Int)<l.length:=g;refine Ob.o ?_;intro x hx;have hx:l[i]?=some x:=hx;refine zb.t (z9 x)<|⟨λb=>zd λk=>b (k x (Xf hx)),λb=>?_⟩;have b:=Xa.1 b;refine Ar.o<|⟨i+1,⟨oM,λp hp=>?_⟩,zC [],by dsimp only;omega⟩;rw[Xl,hx]at hp
  rcases Xs.1 hp with hp|hp
  ·exact h2 p hp
  simp at hp;rw[hp];exact b
 have g:¬(i:Int)<l.length:=g;rw[Xi oM]at h2;exact zI h2
def zAT(a b c:Pt)(tol:Int):CG0 415 [.sl ptE [a,b,c],i64 tol,i64 1] [] (ziv (kY (1*(yl a b c)) tol [a,b,c])) []:=by
 refine zc Tryz.func415 ?_;refine zb.t (zyk tol)<|⟨λa1=>ur (by unfold kY;rw[Xe (show¬(1<=tol/\tol<=256) from a1)]),λa1=>?_⟩;have ht:1<=tol/\tol<=256:=Xa.1 a1;refine zb.t (zok [a,b,c])<|⟨λa2=>ur (by unfold kY;rw[kH ht,Xe a2]),λa2=>?_⟩;have hv:∀p∈[a,b,c],zr p:=Xa.1 a2;have e:kY (1*(yl a b c)) tol [a,b,c]=yC (1*(yl a b c)) tol 64 1:=by unfold kY;rw[kH ht,kH hv]
 have ha:=hv a (by simp);have hb:=hv b (by simp);have hc:=hv c (by simp);have r1:=vR ha hb hc;refine Dr.k<|Ob.mk (by show(0:Int)<=0/\(0:Int)<(3:Nat);decide) ?_;intro x hx
 cases (show some a=some x from hx)
 refine Ob.mk (by show(0:Int)<=1/\(1:Int)<(3:Nat);decide) ?_;intro x hx
 cases (show some b=some x from hx)
 refine Ob.mk (by show(0:Int)<=2/\(2:Int)<(3:Nat);decide) ?_;intro x hx
 cases (show some c=some x from hx)
 refine zb.t (zsp a b c ha hb hc) ?_;intro hl;refine⟨λk=>absurd k (by show¬(3:Int)<(3:Nat);decide),λ_=>?_⟩;generalize hD:yl a b c=D at*;have rD:0<=D/\D<=35184372088832:=oM;refine⟨Nat,λi=>⟨[(1,i64 tol),(2,i64 1),(8,i64 D),(9,i64 (i:Int))],[],0,62,0⟩,λi=>1<=i/\i<=65/\yC (1*D) tol (65-i) i=yC (1*D) tol 64 1,λi=>65-i,1,?_,?_,?_⟩
 ·exact⟨dC,dC,rfl⟩
 ·exact zC []
 rintro i ⟨h3,h4,h5⟩
 refine⟨λg=>?_,λg=>?_⟩
 ·have g:(i:Int)<=64:=g;have ch:=zfE (i:=i) oM ht;have st:=zfD (need:=1*D) (tol:=tol) (i:=i) oM;rw[h5]at st;(iterate 7 refine Ar.o ?_);refine⟨λk=>?_,λk=>?_⟩
  ·have k:enough (1*D) tol i:=k;exact ur (by rw[e,st,Xe k])
  have k:¬enough (1*D) tol i:=k;refine Ar.o ?_;refine⟨i+1,⟨oM,oM,by rw[st,Xc k]⟩,zC [],by dsimp only;omega⟩
 have g:¬(i:Int)<=64:=g;have h6:i=65:=oM;subst h6;exact ur (by rw[e,←h5];rfl)
def zAU(a b c d:Pt)(tol:Int):CG0 415 [.sl ptE [a,b,c,d],i64 tol,i64 9] [] (ziv (kY (9*(max (yl a b c) (yl b c d))) tol [a,b,c,d])) []:=by
 refine zc Tryz.func415 ?_;refine zb.t (zyk tol)<|⟨λa1=>ur (by unfold kY;rw[Xe (show¬(1<=tol/\tol<=256) from a1)]),λa1=>?_⟩;have ht:1<=tol/\tol<=256:=Xa.1 a1;refine zb.t (zok [a,b,c,d])<|⟨λa2=>ur (by unfold kY;rw[kH ht,Xe a2]),λa2=>?_⟩;have hv:∀p∈[a,b,c,d],zr p:=Xa.1 a2;have e:kY (9*(max (yl a b c) (yl b c d))) tol [a,b,c,d]=yC (9*(max (yl a b c) (yl b c d))) tol 64 1:=by unfold kY;rw[kH ht,kH hv]
 have ha:=hv a (by simp);have hb:=hv b (by simp);have hc:=hv c (by simp);have hd:=hv d (by simp);have r1:=vR ha hb hc;have r2:=vR hb hc hd;refine Dr.k<|Ob.mk (by show(0:Int)<=0/\(0:Int)<(4:Nat);decide) ?_;intro x hx
 cases (show some a=some x from hx)
 refine Ob.mk (by show(0:Int)<=1/\(1:Int)<(4:Nat);decide) ?_;intro x hx
 cases (show some b=some x from hx)
 refine Ob.mk (by show(0:Int)<=2/\(2:Int)<(4:Nat);decide) ?_;intro x hx
 cases (show some c=some x from hx)
 refine zb.t (zsp a b c ha hb hc) ?_;intro hl;refine⟨λ_=>?_,λk=>absurd (show(3:Int)<(4:Nat) by decide) k⟩;refine Dr.k<|Ob.mk (by show(0:Int)<=1/\(1:Int)<(4:Nat);decide) ?_;intro x hx
 cases (show some b=some x from hx)
 refine Ob.mk (by show(0:Int)<=2/\(2:Int)<(4:Nat);decide) ?_;intro x hx
 cases (show some c=some x from hx)
 refine Ob.mk (by show(0:Int)<=3/\(3:Int)<(4:Nat);decide) ?_;intro x hx
 cases (show some d=some x from hx)
 refine zb.t (zsp b c d hb hc hd) ?_;generalize hD:max (yl a b c) (yl b c d)=D at*;have rD:0<=D/\D<=35184372088832:=oM;refine⟨Nat,λi=>⟨[(1,i64 tol),(2,i64 9),(8,i64 D),(9,i64 (i:Int))],[],0,62,0⟩,λi=>1<=i/\i<=65/\yC (9*D) tol (65-i) i=yC (9*D) tol 64 1,λi=>65-i,1,?_,?_,?_⟩
 ·exact⟨dC,dC,rfl⟩
 ·exact jh [] ⟨rfl,rfl,Xg (λq=>some (i64 q)) hD,rfl,trivial⟩ trivial
 rintro i ⟨h3,h4,h5⟩
 refine⟨λg=>?_,λg=>?_⟩
 ·have g:(i:Int)<=64:=g;have ch:=zfE (i:=i) oM ht;have st:=zfD (need:=9*D) (tol:=tol) (i:=i) oM;rw[h5]at st;(iterate 7 refine Ar.o ?_);refine⟨λk=>?_,λk=>?_⟩
  ·have k:enough (9*D) tol i:=k;exact ur (by rw[e,st,Xe k])
  have k:¬enough (9*D) tol i:=k;refine Ar.o ?_;refine⟨i+1,⟨oM,oM,by rw[st,Xc k]⟩,zC [],by dsimp only;omega⟩
 have g:¬(i:Int)<=64:=g;have h6:i=65:=oM;subst h6;exact ur (by rw[e,←h5];rfl)
def zvq(a b c:Pt)(tol:Int)(ha:zr a)(hb:zr b)(hc:zr c):CG0 330 [.agg (ptE a++ptE b++ptE c),i64 tol] [] (ziv (jU a b c tol)) []:=by
 refine zc Tryz.func330 ?_;refine zfZ.data<|Dr.k ?_;have r1:=vR ha hb hc;refine zb.t (zkF a b c ha hb hc)<|⟨Pt,ptE,[a,b,c],rfl,Ob.o13 ?_⟩;exact zb.t (zqs (yl a b c) tol [a,b,c] (by show 3<=4;decide))<|.refl
def zvr(a b c:Pt)(tol:Int):CG0 355 [.agg (ptE a++ptE b++ptE c),i64 tol] [] (ziv (jU a b c tol)) []:=by
 refine zc Tryz.func355 ?_;refine zfZ.data<|⟨Pt,ptE,[a,b,c],rfl,Ob.o0 ?_⟩;have c0:=zAT a b c tol;rw[JT]at c0;exact zb.see 0 _ c0 rfl rfl rfl<|.refl
def zvs(a b c d:Pt)(tol:Int)(ha:zr a)(hb:zr b)(hc:zr c)(hd:zr d):CG0 335 [.agg (ptE a++ptE b++ptE c++ptE d),i64 tol] [] (ziv (jV a b c d tol)) []:=by
 refine zc Tryz.func335 ?_;refine zfZ.data<|Dr.k ?_;have r1:=vR ha hb hc;refine zb.t (zkF a b c ha hb hc) ?_;have r2:=vR hb hc hd;refine zb.t (zkF b c d hb hc hd)<|Ar.fit (by show-9223372036854775808<=9*max (yl a b c) (yl b c d)/\9*max (yl a b c) (yl b c d)<=9223372036854775807;omega)<|⟨Pt,ptE,[a,b,c,d],rfl,Ob.o13 ?_⟩;exact zb.t (zqs (9*max (yl a b c) (yl b c d)) tol [a,b,c,d] (by show 4<=4;decide))<|.refl
def zvt(a b c d:Pt)(tol:Int):CG0 357 [.agg (ptE a++ptE b++ptE c++ptE d),i64 tol] [] (ziv (jV a b c d tol)) []:=by
 refine zc Tryz.func357 ?_;refine zfZ.data<|⟨Pt,ptE,[a,b,c,d],rfl,Ob.o0 ?_⟩;have c0:=zAU a b c d tol;exact zb.see 0 _ c0 rfl rfl rfl<|.refl
def zyl(a b:Int)(ha: -8796093022208<=a/\a<=8796093022208)(hb:0<b/\b<=1048576):CG0 396 [i64 a,i64 b] [] (i64 (zdJ a b)) []:=by
 have td:=tdm (m:=2*a+b) (n:=2*b) oM;have tr:=zjT (m:=2*a+b) (n:=2*b) oM ⟨oM,oM⟩;refine zc Tryz.func396 ?_;(iterate 3 refine Ar.o ?_);have e:zdJ a b=(2*a+b)/(2*b):=rfl;have tr2:=tr.2 oM;have tr1:=tr.1;clear tr;refine Dv.any (by omega:2*b≠0)<|Ar.fit tr1<|Dv.any (by omega:2*b≠0)<|⟨λk=>?_,λk=>?_⟩
 ·have k:(2*a+b).tmod (2*b)<0:=k;exact Ar.fit (by unfold R64 at tr1;omega)<|ze (by rw[e];omega)
 have k:¬(2*a+b).tmod (2*b)<0:=k;exact ze (by rw[e];omega)
def zi1(a b:Int)(ha: -8796093022208<=a/\a<=8796093022208)(hb:0<b/\b<=1048576):CG0 418 [i64 a,i64 b] [] (i64 (zdJ a b)) []:=by
 have td:=tdm (m:=2*a+b) (n:=2*b) oM;have tr:=zjT (m:=2*a+b) (n:=2*b) oM ⟨oM,oM⟩;refine zc Tryz.func418 ?_;(iterate 3 refine Ar.o ?_);have e:zdJ a b=(2*a+b)/(2*b):=rfl;have tr2:=tr.2 oM;have tr1:=tr.1;clear tr;refine Dv.any (by omega:2*b≠0)<|Ar.fit tr1 ?_;(iterate 2 refine Ar.o ?_);refine⟨λk=>?_,λk=>?_⟩
 ·have k:2*a+b<0:=k;(iterate 3 refine Ar.o ?_);refine Dv.any (by omega:2*b≠0)<|⟨λk2=>?_,λk2=>?_⟩
  ·have k2:¬(2*a+b).tmod (2*b)=0:=k2;exact Ar.fit (by unfold R64 at tr1;omega)<|ze (by rw[e];omega)
  have k2:(2*a+b).tmod (2*b)=0:=Xa.1 k2;exact ze (by rw[e];omega)
 have k:¬2*a+b<0:=k;exact ze (by rw[e];omega)
def ztX(i n:Int):CG0 416 [i64 i,i64 n] [] (pr (1<=n/\n<=64/\0<=i/\i<=n)) []:=by
 refine zc Tryz.func416 ?_;refine⟨λh1=>?_,λh1=>zd (λk=>h1 k.1)⟩;refine⟨λh2=>?_,λh2=>zd (λk=>h2 k.2.1)⟩;refine⟨λh3=>?_,λh3=>zd (λk=>h3 k.2.2.1)⟩;exact zE ⟨λh4=>⟨h1,h2,h3,h4⟩,λh=>h.2.2.2⟩
def zym(l:List Pt)(i n:Int)(hl:l.length<=4):CG0 394 [.sl ptE l,i64 i,i64 n] [] (pr (zqa l i n)) []:=by
 refine zc Tryz.func394 ?_;intro hl1;refine⟨Nat,λk=>⟨[(1,i64 i),(2,i64 n),(9,.sl ptE l),(10,i64 (l.length:Int)),(11,i64 (k:Int))],[],0,34,0⟩,λk=>k<=l.length/\∀p∈l.take k,zr p,λk=>l.length-k,0,?_,?_,?_⟩
 ·exact⟨Xh _,λp hp=>by cases hp⟩
 ·exact zC []
 rintro k ⟨h1,h2⟩
 refine⟨λg=>?_,λg=>?_⟩
 ·have g:(k:Int)<l.length:=g;refine Ob.o ?_;intro x hx;have hx:l[k]?=some x:=hx;refine zb.t (k8 x)<|⟨λb=>zd λq=>b (q.1 x (Xf hx)),λb=>?_⟩;have b:=Xa.1 b;refine Ar.o<|⟨k+1,⟨oM,λp hp=>?_⟩,zC [],by dsimp only;omega⟩;rw[Xl,hx]at hp
  rcases Xs.1 hp with hp|hp
  ·exact h2 p hp
  simp at hp;rw[hp];exact b
 have g:¬(k:Int)<l.length:=g;have hv:∀p∈l,zr p:=by rw[Xi oM]at h2;exact h2
 refine⟨λh1=>?_,λh1=>zd (λk=>h1 k.2.1)⟩;refine⟨λh2=>?_,λh2=>zd (λk=>h2 k.2.2.1)⟩;refine⟨λh3=>?_,λh3=>zd (λk=>h3 k.2.2.2.1)⟩;exact zE ⟨λh4=>⟨hv,h1,h2,h3,h4⟩,λh=>h.2.2.2.2⟩
def zol{k i n x y z:Int}(hk:0<=k/\k<=64)(hi:0<=i/\i<=64)(hn:1<=n/\n<=64)(hx: -1048576<=x/\x<=1048576)(hy: -1048576<=y/\y<=1048576)(hz: -1048576<=z/\z<=1048576):
  (-4096<=k*k/\k*k<=4096)/\(-4294967296<=k*k*x/\k*k*x<=4294967296)/\(-8192<=2*i*k/\2*i*k<=8192)/\(-8589934592<=2*i*k*y/\2*i*k*y<=8589934592)/\
  (-4096<=i*i/\i*i<=4096)/\(-4294967296<=i*i*z/\i*i*z<=4294967296)/\(0<n*n/\n*n<=4096):=by
 have h1:=ju (A:=64) (B:=64) (a:=k) (b:=k) oM oM;have h2:=ju (A:=4096) (B:=1048576) (a:=k*k) (b:=x) oM oM;have h3:=ju (A:=128) (B:=64) (a:=2*i) (b:=k) oM oM;have h4:=ju (A:=8192) (B:=1048576) (a:=2*i*k) (b:=y) oM oM;have h5:=ju (A:=64) (B:=64) (a:=i) (b:=i) oM oM;have h6:=ju (A:=4096) (B:=1048576) (a:=i*i) (b:=z) oM oM;have h7:=ju (A:=64) (B:=64) (a:=n) (b:=n) oM oM;have h8:=Jd (show 0<n by omega) (show 0<n by omega);omega
def zom{k i n x y z u:Int}(hk:0<=k/\k<=64)(hi:0<=i/\i<=64)(hn:1<=n/\n<=64)(hx: -1048576<=x/\x<=1048576)(hy: -1048576<=y/\y<=1048576)(hz: -1048576<=z/\z<=1048576)(hu: -1048576<=u/\u<=1048576):
  ((-4096<=k*k/\k*k<=4096)/\(-262144<=k*k*k/\k*k*k<=262144)/\(-274877906944<=k*k*k*x/\k*k*k*x<=274877906944))/\
  ((-12288<=3*i*k/\3*i*k<=12288)/\(-786432<=3*i*k*k/\3*i*k*k<=786432)/\(-824633720832<=3*i*k*k*y/\3*i*k*k*y<=824633720832))/\
  ((-12288<=3*i*i/\3*i*i<=12288)/\(-786432<=3*i*i*k/\3*i*i*k<=786432)/\(-824633720832<=3*i*i*k*z/\3*i*i*k*z<=824633720832))/\
  ((-4096<=i*i/\i*i<=4096)/\(-262144<=i*i*i/\i*i*i<=262144)/\(-274877906944<=i*i*i*u/\i*i*i*u<=274877906944))/\((0<n*n/\n*n<=4096)/\(0<n*n*n/\n*n*n<=262144)):=by
 have h1:=ju (A:=64) (B:=64) (a:=k) (b:=k) oM oM;have h2:=ju (A:=4096) (B:=64) (a:=k*k) (b:=k) oM oM;have h3:=ju (A:=262144) (B:=1048576) (a:=k*k*k) (b:=x) oM oM;have h4:=ju (A:=192) (B:=64) (a:=3*i) (b:=k) oM oM;have h5:=ju (A:=12288) (B:=64) (a:=3*i*k) (b:=k) oM oM;have h6:=ju (A:=786432) (B:=1048576) (a:=3*i*k*k) (b:=y) oM oM;have h7:=ju (A:=192) (B:=64) (a:=3*i) (b:=i) oM oM;have h8:=ju (A:=12288) (B:=64) (a:=3*i*i) (b:=k) oM oM
 have h9:=ju (A:=786432) (B:=1048576) (a:=3*i*i*k) (b:=z) oM oM;have i1:=ju (A:=64) (B:=64) (a:=i) (b:=i) oM oM;have i2:=ju (A:=4096) (B:=64) (a:=i*i) (b:=i) oM oM;have i3:=ju (A:=262144) (B:=1048576) (a:=i*i*i) (b:=u) oM oM;have n1:=ju (A:=64) (B:=64) (a:=n) (b:=n) oM oM;have n2:=ju (A:=4096) (B:=64) (a:=n*n) (b:=n) oM oM;have n3:=Jd (show 0<n by omega) (show 0<n by omega);have n4:=Jd n3 (show 0<n by omega);omega
def zmx(x y z k i n:Int)(hk:0<=k/\k<=64)(hi:0<=i/\i<=64)(hn:1<=n/\n<=64)(hx: -1048576<=x/\x<=1048576)(hy: -1048576<=y/\y<=1048576)(hz: -1048576<=z/\z<=1048576):
  CG0 395 [i64 x,i64 y,i64 z,.ptr [i64 k],.ptr [i64 i],.ptr [i64 n]] [] (i64 (zdJ (k*k*x+2*i*k*y+i*i*z) (n*n))) []:=by
 have t:=zol hk hi hn hx hy hz;refine zc Tryz.func395 ?_;(iterate 10 refine Ar.o ?_);exact zb.t (zyl (k*k*x+2*i*k*y+i*i*z) (n*n) oM oM)<|.refl
def zmy{a b c:Pt}{i n:Int}(h:zqa [a,b,c] i n):yU a b c i n=⟨q1 i n a.x b.x c.x,q1 i n a.y b.y c.y⟩:=by
 unfold yU;rw[kH h]
def zyn(a b c:Pt)(i n:Int):CG0 334 [.agg (ptE a++ptE b++ptE c),i64 i,i64 n] [] (.agg (ptE (yU a b c i n))) []:=by
 refine zc Tryz.func334 ?_;refine zfZ.data<|Dr.k<|⟨Pt,ptE,[a,b,c],rfl,Ob.o13 ?_⟩;refine zb.t (zym [a,b,c] i n (by show 3<=4;decide))<|⟨λh=>?_,λh=>?_⟩
 ·refine ub (show SV.agg (ptE zp)=_ from ?_);unfold yU;rw[Xe h]
 have h:=Xa.1 h;obtain⟨hv,n1,n2,i1,i2⟩:=h;have ha:=hv a (by simp);have hb:=hv b (by simp);have hc:=hv c (by simp);exact Ar.o<|Dr.k<|zb.t (zmx a.x b.x c.x (n-i) i n oM oM oM ha.1 hb.1 hc.1)<|zb.t (zmx a.y b.y c.y (n-i) i n oM oM oM ha.2 hb.2 hc.2)<|ub (Xg (λp=>SV.agg (ptE p)) (zmy ⟨hv,n1,n2,i1,i2⟩).symm)
def zyo(a b c:Pt)(i n:Int):CG0 356 [.agg (ptE a++ptE b++ptE c),i64 i,i64 n] [] (.agg (ptE (yU a b c i n))) []:=by
 refine zc Tryz.func356 ?_;refine zfZ.data ?_
 have bad:¬zqa [a,b,c] i n->LE (.agg (ptE zp)) (.agg (ptE (yU a b c i n))):=λh=>by
  refine ub ?_;unfold yU;rw[Xe h]
 refine zb.t (ztX i n)<|⟨λh=>bad λk=>h ⟨k.2.1,k.2.2.1,k.2.2.2.1,k.2.2.2.2⟩,λh=>?_⟩;refine⟨Pt,ptE,[a,b,c],rfl,Ob.o0 ?_⟩;refine zb.see 1 _ (zok [a,b,c]) rfl rfl rfl<|Br.mk (λh2=>bad λk=>h2 k.1) (λh2=>?_);obtain⟨n1,n2,i1,i2⟩:=Xa.1 h;have hv:=Xa.1 h2;have ha:=hv a (by simp);have hb:=hv b (by simp);have hc:=hv c (by simp);have t1:=zol (k:=n-i) (i:=i) (n:=n) oM oM oM ha.1 hb.1 hc.1;have t2:=zol (k:=n-i) (i:=i) (n:=n) oM oM oM ha.2 hb.2 hc.2;refine Ar.o ?_
 (iterate 19 refine Ar.o ?_);exact zb.t (zi1 ((n-i)*(n-i)*a.x+2*i*(n-i)*b.x+i*i*c.x) (n*n) oM oM)<|Ar.o<|zb.t (zi1 ((n-i)*(n-i)*a.y+2*i*(n-i)*b.y+i*i*c.y) (n*n) oM oM)<|ub (Xg (λp=>SV.agg (ptE p)) (zmy ⟨hv,n1,n2,i1,i2⟩).symm)
def zmz(x y z u k i n:Int)(hk:0<=k/\k<=64)(hi:0<=i/\i<=64)(hn:1<=n/\n<=64)(hx: -1048576<=x/\x<=1048576)(hy: -1048576<=y/\y<=1048576)(hz: -1048576<=z/\z<=1048576)(hu: -1048576<=u/\u<=1048576):
  CG0 397 [i64 x,i64 y,i64 z,i64 u,.ptr [i64 k],.ptr [i64 i],.ptr [i64 n]] [] (i64 (zdJ (k*k*k*x+3*i*k*k*y+3*i*i*k*z+i*i*i*u) (n*n*n))) []:=by
 have t:=zom hk hi hn hx hy hz hu;refine zc Tryz.func397 ?_;(iterate 19 refine Ar.o ?_);exact zb.t (zyl (k*k*k*x+3*i*k*k*y+3*i*i*k*z+i*i*i*u) (n*n*n) oM oM)<|.refl
def zmA{a b c d:Pt}{i n:Int}(h:zqa [a,b,c,d] i n):yV a b c d i n=⟨c1 i n a.x b.x c.x d.x,c1 i n a.y b.y c.y d.y⟩:=by
 unfold yV;rw[kH h]
def zyp(a b c d:Pt)(i n:Int):CG0 337 [.agg (ptE a++ptE b++ptE c++ptE d),i64 i,i64 n] [] (.agg (ptE (yV a b c d i n))) []:=by
 refine zc Tryz.func337 ?_;refine zfZ.data<|Dr.k<|⟨Pt,ptE,[a,b,c,d],rfl,Ob.o13 ?_⟩;refine zb.t (zym [a,b,c,d] i n (by show 4<=4;decide))<|⟨λh=>?_,λh=>?_⟩
 ·refine ub (show SV.agg (ptE zp)=_ from ?_);unfold yV;rw[Xe h]
 have h:=Xa.1 h;obtain⟨hv,n1,n2,i1,i2⟩:=h;have ha:=hv a (by simp);have hb:=hv b (by simp);have hc:=hv c (by simp);have hd:=hv d (by simp);exact Ar.o<|Dr.k<|zb.t (zmz a.x b.x c.x d.x (n-i) i n oM oM oM ha.1 hb.1 hc.1 hd.1)<|zb.t (zmz a.y b.y c.y d.y (n-i) i n oM oM oM ha.2 hb.2 hc.2 hd.2)<|ub (Xg (λp=>SV.agg (ptE p)) (zmA ⟨hv,n1,n2,i1,i2⟩).symm)
def zyq(a b c d:Pt)(i n:Int):CG0 358 [.agg (ptE a++ptE b++ptE c++ptE d),i64 i,i64 n] [] (.agg (ptE (yV a b c d i n))) []:=by
 refine zc Tryz.func358 ?_;refine zfZ.data ?_
 have bad:¬zqa [a,b,c,d] i n->LE (.agg (ptE zp)) (.agg (ptE (yV a b c d i n))):=λh=>by
  refine ub ?_;unfold yV;rw[Xe h]
 refine zb.t (ztX i n)<|⟨λh=>bad λk=>h ⟨k.2.1,k.2.2.1,k.2.2.2.1,k.2.2.2.2⟩,λh=>?_⟩;refine⟨Pt,ptE,[a,b,c,d],rfl,Ob.o0 ?_⟩;refine zb.see 1 _ (zok [a,b,c,d]) rfl rfl rfl<|Br.mk (λh2=>bad λk=>h2 k.1) (λh2=>?_);obtain⟨n1,n2,i1,i2⟩:=Xa.1 h;have hv:=Xa.1 h2;have ha:=hv a (by simp);have hb:=hv b (by simp);have hc:=hv c (by simp);have hd:=hv d (by simp);have t1:=zom (k:=n-i) (i:=i) (n:=n) oM oM oM ha.1 hb.1 hc.1 hd.1
 have t2:=zom (k:=n-i) (i:=i) (n:=n) oM oM oM ha.2 hb.2 hc.2 hd.2;(iterate 32 refine Ar.o ?_)
 (iterate 5 refine Ar.o ?_);refine zb.t (zi1 ((n-i)*(n-i)*(n-i)*a.x+3*i*(n-i)*(n-i)*b.x+3*i*i*(n-i)*c.x+i*i*i*d.x) (n*n*n) oM oM) ?_;(iterate 2 refine Ar.o ?_);exact zb.t (zi1 ((n-i)*(n-i)*(n-i)*a.y+3*i*(n-i)*(n-i)*b.y+3*i*i*(n-i)*c.y+i*i*i*d.y) (n*n*n) oM oM)<|ub (Xg (λp=>SV.agg (ptE p)) (zmA ⟨hv,n1,n2,i1,i2⟩).symm)
def zgE(prev:SV->SV)(lm:Nat->Option Mem):SV->SV
 |.loc k off=>(match lm k with
  |some (.box _ cs)=>.dptr ((cs.map prev).drop off)
  |_=>.junk)
 |.own k=>(match lm k with
  |some (.arr _ enc _ xs)=>.sl enc xs
  |_=>.junk)
 |.fn f cs=>.dfn f (frzs prev lm cs)
 |.agg cs=>.agg (frzs prev lm cs)
 |.ifc t s=>.ifc t (zgE prev lm s)
 |.val v=>.val v
 |.pr p i=>.pr p i
 |.sl enc xs=>.sl enc xs
 |.dptr cs=>.dptr cs
 |.dfn f cs=>.dfn f cs
 |.bm f cs=>.bm f cs
 |.op v=>.op v
 |.nils=>.nils
 |.anyb=>.anyb
 |.full enc xs=>.full enc xs
 |_=>.junk
 where
 frzs (prev:SV->SV) (lm:Nat->Option Mem):List SV->List SV
  |[]=>[]
  |c::cs=>zgE prev lm c::frzs prev lm cs
def frz(lm:Nat->Option Mem):Nat->SV->SV
 |0=>zgE (λ_=>.junk) lm
 |n+1=>zgE (frz lm n) lm
def ziJ(lm:Nat->Option Mem)(n:Nat)(s:SV):SV:=
 match s with
 |.tup cs=>.tup (cs.map (frz lm n))
 |s=>frz lm n s
def zkG(prev:SV->SV)(lm:Nat->Option Mem):∀cs,zgE.frzs prev lm cs=cs.map (zgE prev lm)
 |[]=>rfl
 |c::cs=>by rw[zgE.frzs,zkG prev lm cs];rfl
section
variable{Keep:Nat->Prop}{M:List (Nat×Mem)}{ρ:zi}{w:World}{lm:Nat->Option Mem}
def zyr(hlm:∀k m,lm k=some m->(k,m)∈M)(hm:zK Keep M ρ w){prev:SV->SV}(hp:∀{s:SV} {v:Value},G (λb=>Keep b∨Own M ρ b) (Own M ρ) ρ w s v->D Keep w (prev s) v):
  ∀(s:SV) {v:Value},G (λb=>Keep b∨Own M ρ b) (Own M ρ) ρ w s v->D Keep w (zgE prev lm s) v:=by
 have hsub:∀b,Keep b->Keep b∨Own M ρ b:=λb h=>.inl h
 intro s
 induction s using SV.rec (motive_2:=λcs=>∀{vs:List Value},Gs (λb=>Keep b∨Own M ρ b) (Own M ρ) ρ w cs vs->∀(j:Nat) (s:SV) (v:Value),(zgE.frzs prev lm cs)[j]?=some s->vs[j]?=some v->D Keep w s v) with
 |val v=>intro u hg;rw[hg.val_inv];exact .val v
 |pr p i=>intro u hg;rw[hg.pr_inv];exact .pr p i
 |sl enc xs=>intro u hg;exact hg.sl_inv.less hsub
 |nils=>intro u hg;obtain⟨a,rfl⟩:=hg.nils_inv;exact .nils a
 |anyb=>intro u hg;obtain⟨b,rfl⟩:=hg.anyb_inv;exact .anyb b
 |full enc xs=>intro u hg;obtain⟨a,rfl,hd⟩:=hg.full_inv;exact .full enc xs a (hd.less hsub)
 |dptr cs _=>intro u hg;cases hg with|d _ _ h=>exact h.less hsub
 |dfn f cs _=>intro u hg;cases hg with|d _ _ h=>exact h.less hsub
 |bm f cs _=>intro u hg;cases hg with|d _ _ h=>exact h.less hsub
 |op v=>intro u hg;cases hg with|d _ _ h=>exact h.less hsub
 |ifc t s ih=>
  intro u hg;obtain⟨v,rfl,hv⟩:=hg.ifc_inv;exact .ifc t _ v (ih hv)
 |agg cs ih=>
  intro u hg;obtain⟨vs,rfl,hvs⟩:=hg.agg_inv;exact .agg _ vs (by rw[zkG,Xx];exact hvs.1) (ih hvs)
 |fn f cs ih=>
  intro u hg;obtain⟨vs,rfl,hvs⟩:=hg.fn_inv;exact .dfn f _ vs (by rw[zkG,Xx];exact hvs.1) (ih hvs)
 |loc k off=>
  intro u hg;obtain⟨b,hρ,rfl⟩:=hg.loc_inv;simp only[zgE]
  split
  ·rename_i T cs hk;have hmem:=hlm k _ hk;obtain⟨b',vs,h1,h2,h3,h4,h5⟩:=hm.rel k _ hmem;rw[hρ]at h1;cases h1
   have hb:=hm.old b ⟨k,_,_,hmem,hρ,rfl⟩;refine .dptr _ b off (λj=>(vs[off+j]?).getD undef) hb.1 hb.2 (λj hj=>?_) (λj s hs=>?_)
   ·have hj':off+j<vs.length:=by simp at hj;omega
    rw[zf2 h2];simp only[Xb hj',Qq];exact⟨trivial,h4 _ (KJ hj')⟩
   rw[KA,XD]at hs
   cases hc:cs[off+j]? with
   |none=>simp[hc]at hs
   |some c=>
    simp[hc]at hs;subst hs;have hj':off+j<vs.length:=by have:=(Xd.1 hc).1;omega
    rw[Xb hj',Qq];exact hp (h5 _ c _ hc (Xb hj'))
  exact .junk _
 |own k=>
  intro u hg;obtain⟨hρ,h1⟩:=hg.own_inv;simp only[zgE]
  split
  ·rename_i T α enc sz xs hk;have hmem:=hlm k _ hk;exact zjs hm hmem (λb hb=>.inl hb) (λv b hv hb hk=>(hm.old b ⟨k,_,v,hmem,hv,hb⟩).2 hk) hρ
  exact .junk _
 |ptr cs _=>intro u _;exact .junk _
 |eloc _ _ _ _=>intro u _;exact .junk _
 |win _ _ _ _=>intro u _;exact .junk _
 |tup cs _=>intro u _;exact .junk _
 |junk=>intro u _;exact .junk _
 |nil=>rename_i vs _ j s v h _;simp[zgE.frzs]at h
 |cons c cs ihc ihcs=>
  rename_i vs hg j s v h hv;obtain⟨v0,vs',rfl,h1,h2⟩:=hg.cons_inv
  cases j with
  |zero=>simp[zgE.frzs]at h hv;subst h;subst hv;exact ihc h1
  |succ j=>exact ihcs h2 j s v (by simpa[zgE.frzs] using h) (by simpa using hv)
def zmB(hlm:∀k m,lm k=some m->(k,m)∈M)(hm:zK Keep M ρ w):∀(n:Nat) {s:SV} {v:Value},G (λb=>Keep b∨Own M ρ b) (Own M ρ) ρ w s v->D Keep w (frz lm n s) v
 |0,s,_,h=>zyr hlm hm (λ_=>.junk _) s h
 |n+1,s,_,h=>zyr hlm hm (λh=>zmB hlm hm n h) s h
end
section
def endF(n:Nat)(Γ:List (TypeId×TI))(rs:List ResultVar)(r:SV)(e:Ex)(σ:St):Prop:=
 match e with
 |.exit _=>False
 |_=>zbV σ Γ rs λs=>LE (ziJ (zS σ.M) n s) r
variable{P:Program}{Γ:List (TypeId×TI)}{f:FuncId}{fn:Func}{c:Code}{r:SV}
def u0(n:Nat)(hT:TOK P Γ)(hm:P.follows .mixedOrders=true){args:List SV}(hf:P.funcs[f]?=some fn)(hb:fn.body=some c)(hn:(fn.name== "runtime.NumGoroutine")=false) (hle:Nat.ble args.length fn.ntmps=true)
  (h:jH P Γ c ⟨jI 0 args,[],0,fn.ntmps,0⟩ (endF n Γ fn.results.toList r)):qx P f args [] r []:=by
 refine zaS hT hm hf hb hn hle h (λe σ h=>⟨σ,.refl,h⟩) (λe σ hq he=>?_) (λid σ hq=>hq)
 have hq:zbV σ Γ fn.results.toList λs=>LE (ziJ (zS σ.M) n s) r:=by
  cases e with
  |exit id=>exact absurd rfl (he id)
  |normal=>exact hq
  |ret=>exact hq
 obtain⟨s,hle,h1⟩:=yj hT hq;refine⟨s,h1,λ{E ρ a w v} hr hW _ hg=>⟨ρ,?_,?_,?_⟩⟩
 ·have hs:=hr.stp;exact⟨hs.os,hs.tape,hs.output,hs.size,λb hb hn=>hs.block b hb λh=>hn ((hW b).1 h),λb hb=>absurd hb zP,hs.rho⟩
 ·exact(qr hr.mem.kp λ_ _ h=>hr.mem.glc h)
 have hd:∀{s:SV} {v:Value},G (λb=>E.Keep b∨Own σ.M ρ b) (Own σ.M ρ) ρ w s v->D (λb=>E.Keep b∨Own [] ρ b) w (frz (zS σ.M) n s) v:=λh=>
  (zmB (λk m h=>zw h) hr.mem n h).less λb hb=>hb.resolve_right zP
 refine hle _ _ _ _ _ ?_;unfold ziJ
 split
 ·rename_i cs;obtain⟨vs,rfl,hvs⟩:=hg.tup_inv;refine .tup _ vs (by rw[Xx];exact hvs.1) λj s v hs hv=>?_
  rw[XD]at hs
  cases hc:cs[j]? with
  |none=>simp[hc]at hs
  |some c=>
   simp[hc]at hs;subst hs;exact .d _ _ (hd (hvs.2 j c v hc hv))
 exact .d _ _ (hd hg)
def ziw(n:Nat)(hT:TOK P Γ)(hm:P.follows .mixedOrders=true){args:List SV}{M:List (Nat×Mem)}(hf:P.funcs[f]?=some fn)(hb:fn.body=some c)(hn:(fn.name== "runtime.NumGoroutine")=false) (hle:Nat.ble args.length fn.ntmps=true)
  (h:jH P Γ c ⟨jI 0 args,M,M.length,fn.ntmps,M.length⟩ (endF n Γ fn.results.toList r)):qx P f args M r []:=by
 refine zaS hT hm hf hb hn hle h (λe σ h=>⟨σ,.refl,h⟩) (λe σ hq he=>?_) (λid σ hq=>hq)
 have hq:zbV σ Γ fn.results.toList λs=>LE (ziJ (zS σ.M) n s) r:=by
  cases e with
  |exit id=>exact absurd rfl (he id)
  |normal=>exact hq
  |ret=>exact hq
 obtain⟨s,hle,h1⟩:=yj hT hq;refine⟨s,h1,λ{E ρ a w v} hr hW _ hg=>⟨ρ,?_,?_,?_⟩⟩
 ·have hs:=hr.stp;exact⟨hs.os,hs.tape,hs.output,hs.size,λb hb hn=>hs.block b hb λh=>hn ((hW b).1 h),λb hb=>absurd hb zP,hs.rho⟩
 ·exact(qr hr.mem.kp λ_ _ h=>hr.mem.glc h)
 have hd:∀{s:SV} {v:Value},G (λb=>E.Keep b∨Own σ.M ρ b) (Own σ.M ρ) ρ w s v->D (λb=>E.Keep b∨Own [] ρ b) w (frz (zS σ.M) n s) v:=λh=>
  (zmB (λk m h=>zw h) hr.mem n h).less λb hb=>hb.resolve_right zP
 refine hle _ _ _ _ _ ?_;unfold ziJ
 split
 ·rename_i cs;obtain⟨vs,rfl,hvs⟩:=hg.tup_inv;refine .tup _ vs (by rw[Xx];exact hvs.1) λj s v hs hv=>?_
  rw[XD]at hs
  cases hc:cs[j]? with
  |none=>simp[hc]at hs
  |some c=>
   simp[hc]at hs;subst hs;exact .d _ _ (hd (hvs.2 j c v hc hv))
 exact .d _ _ (hd hg)
structure yi (F:Fence):Prop where
 fn:∀f,F.fn f
 depth:F.depth=none
 alive:F.alive=false
def yi.wide:yi Fence.wide:=⟨λ_=>trivial,rfl,rfl⟩
def yi.inRound{F:Fence}(h:yi F)(l:Nat):yi (F.inRound l):=⟨h.fn,h.depth,h.alive⟩
def yi.room{F:Fence}(h:yi F)(n:Nat):F.room n:=λd hd=>by rw[h.depth]at hd;cases hd
def yi.fenced{F:Fence}(h:yi F)(P:Program)(m:Machine):m.fenced P F:=by
 intro g _;exact⟨λha=>(by rw[h.alive]at ha;cases ha),.inl (h.fn _),λf _=>h.fn f,h.room _⟩
variable{F:Fence}{m:Machine}{m':Machine}
def yi.steps(h:yi F)(hs:Steps P m m'):StepsIn (Machine.fenced P F) P m m':=
 (StepsIn.of_steps hs).mono λm _=>h.fenced P m
def yi.comes(h:yi F){e:Ending}(hs:Comes P m m' e):ComesIn (Machine.fenced P F) P m m' e:=by
 cases e with
 |returned v=>exact h.steps hs
 |panicked c=>exact h.steps hs
 |outgrown=>exact hs
def yi.calls(h:yi F){n:Nat}{args:Array Value}{w:World}{R:Ending->World->Prop}(hc:Calls P f args w R):CallsIn F n P f args w R:=
 ⟨h.fn f,λcs _=>let ⟨e,w',fr,r,s,x⟩:=hc cs;⟨e,w',fr,r,h.comes s,x⟩⟩
def yi.rows(h:yi F){n:Nat}{row:String}{args:Array Value}{w:World}{R:Value->World->Prop}(hc:Go.Rows P row args w R):RowsIn F n P row args w R:=
 λc cs _=>let ⟨v,w',r,s⟩:=hc c cs;⟨v,w',r,h.steps s⟩
def yi.need(h:yi F){n:Nat}:F.depth.isSome=true->1<=n:=λhd=>by rw[h.depth]at hd;cases hd
variable{a:Act}{Q:Exit->Act->World->Prop}
def yi.op(h:yi F){n:Nat}{o:Oper}{w:World}{K:Act->World->Prop}(hd:∀c,o.op≠.defer c)(hw:o.wp P a w K Q):o.wpIn F n P a w K Q:=by
 refine⟨λf _=>h.fn f,?_⟩;rw[Oper.semAt_eq _ _ _ hd];unfold Oper.wp at hw;generalize (execOp a.eval o).run P w=r at*
 cases r with
 |ok x w'=>
  cases x <;> simp only[Oper.upon,Oper.uponIn]at hw ⊢
  case value=>exact hw
  case skip=>exact hw
  case defer=>exact hw
  case enter=>exact⟨h.need,(h.calls hw).mono λe w'' he=>by cases e <;> exact he⟩
  case row=>exact⟨h.need,h.rows hw⟩
 |halt x w'=>cases x <;> simp only[Oper.upon,Oper.uponIn]at hw ⊢;exact hw
def zqt(o:Oper):Bool:=match o.op with|.defer _=>false|_=>true
def zfF{o:Oper}(h:zqt o=true):∀c,o.op≠.defer c:=λc e=>by unfold zqt at h;rw[e]at h;cases h
def yX(l:List Oper):Bool:=l.all zqt
def zkH{l:List Oper}(h:yX l=true){o:Oper}(ho:o∈l):∀c,o.op≠.defer c:=zfF (XR.1 h o ho)
def yi.list{F:Fence}(h:yi F){n:Nat}{P:Program}{ops:Array Oper}{Q:Exit->Act->World->Prop}(hQ:∀a w,¬Q .outgrown a w):∀{l:List Oper} {a:Act} {w:World},yX l=true->
  wpList P ops Q l a w->wpListIn F n P ops Q l a w
 |[],_,_,_,hw=>hw
 |o::r,a,w,hd,hw=>by
  have hd':zqt o=true/\yX r=true:=by unfold yX at hd ⊢;rw[Yx,XA]at hd;exact hd
  unfold wpList at hw;unfold wpListIn
  split
  ·rename_i hwt;rw[Xe hwt]at hw;have hw:=hw.resolve_right λk=>by obtain⟨_,a',w',k⟩:=k;exact hQ _ _ k
   exact h.op (zfF hd'.1) (Oper.wp_mono (λa w hk=>h.list hQ hd'.2 hk) hw)
  rename_i hwt;rw[Xc hwt]at hw;exact⟨λf _=>h.fn f,h.list hQ hd'.2 hw⟩
def yi.any{F:Fence}(h:yi F){n:Nat}{P:Program}{md:Region.Mode}{ops:Array Oper}{Q:Exit->Act->World->Prop}(hQ:∀a w,¬Q .outgrown a w)(hd:yX ops.toList=true):
  ∀{fuel:Nat} {listed:Array Bool} {a:Act} {w:World},wpAny P md ops Q fuel listed a w->wpAnyIn F n P md ops Q fuel listed a w
 |0,_,_,_,hw=>hw
 |fuel+1,listed,a,w,hw=>by
  refine⟨hw.1,λi hi=>?_⟩;have:=hw.2 i hi;unfold wpOp at this;unfold wpOpIn
  cases ho:ops[i]? with
  |none=>rw[ho]at this;exact h.any hQ hd this
  |some o=>
   rw[ho]at this;dsimp only at this ⊢;have hdo:=zkH hd (o:=o) (by rw[Array.mem_toList_iff];exact Array.mem_of_getElem? ho)
   split
   ·rename_i hwt;rw[Xe hwt]at this;have:=this.resolve_right λk=>by obtain⟨_,a',w',k⟩:=k;exact hQ _ _ k
    exact h.op hdo (Oper.wp_mono (λa w hk=>h.any hQ hd hk) this)
   rename_i hwt;rw[Xc hwt]at this;exact⟨λf _=>h.fn f,h.any hQ hd this⟩
def u1:Code->Bool
 |.region _ ops _=>yX ops.toList
 |.seq x y=>u1 x&&u1 y
 |.cond _ x y=>u1 x&&u1 y
 |.block _ c=>u1 c
 |.loop c=>u1 c
 |.scope _=>false
 |_=>true
variable{E:Env}
def uU.grown{Q:Ex->St->Prop}(a:Act)(w:World):¬uU E Q .outgrown a w:=λh=>h
def zmC(hF:yi F){n:Nat}(hT:TOK P Γ)(hm:P.follows .mixedOrders=true){id:Nat}{ops:Array Oper}{draw:Bool}{σ:St}{Q:Ex->St->Prop}{ρ:zi}{w:World}(hd:yX ops.toList=true)(hr:Rel E σ ρ a w)(h:jH P Γ (.region id ops draw) σ Q):(Code.region id ops draw).wpIn F n P (uU E Q) a w:=by
 cases draw with
 |false=>
  have h:u6 P Γ false ops.toList ops.toList 0 σ (Q .normal):=h;refine wpIn_region_list (hF.list uU.grown hd ?_);have:=ziU (Q:=uU E Q) hT (λσ ρ a w h hr=>⟨σ,ρ,h,hr⟩) hr h
  simpa using this
 |true=>
  have h:Dr (vl ops.toList=true) (u6 P Γ true ops.toList ops.toList 0 σ (Q .normal)) (Ob (zfr ops.toList=true) (za2 P Γ ops.toList ops.toList 0 [] σ (Q .normal))):=h;refine wpIn_region_any hm (hF.any uU.grown hd ?_)
  obtain⟨h1,h2⟩|⟨h1,h2⟩:=h
  ·exact zdx hT hr h1 h2 λσ ρ a w h hr=>⟨σ,ρ,h,hr⟩
  exact zgf hT hr h1 h2 λσ ρ a w h hr=>⟨σ,ρ,h,hr⟩
def zax{n:Nat}{w:World}(I:Nat->Act->World->Prop)(n₀:Nat)(h₀:I n₀ a w)(round:∀m a w,I m a w->c.wpIn F n P (Exit.then (λa' w'=>∃m',m'<m/\I m' a' w') Q) a w):(Code.loop c).wpIn F n P Q a w:=by
 refine wpIn_loop (λa w=>∃m,I m a w) (λa w=>leastOf (λm=>I m a w)) ⟨n₀,h₀⟩ ?_;intro a w hI;refine wpIn_mono (round _ a w (leastOf_spec hI).1) ?_;intro e a' w' hq
 cases e with
 |normal=>
  obtain⟨m',hlt,hI'⟩:=hq;exact show(∃m,I m a' w')/\leastOf (λm=>I m a' w')<leastOf (λm=>I m a w) from⟨⟨m',hI'⟩,K6 ((leastOf_spec ⟨m',hI'⟩).2 m' hI') hlt⟩
 |exit id=>exact hq
 |goto l=>exact hq
 |ret=>exact hq
 |panic ch=>exact hq
 |outgrown=>exact hq
def uQ{F:Fence}(hF:yi F){n:Nat}{P:Program}{Γ:List (TypeId×TI)}(hT:TOK P Γ)(hm:P.follows .mixedOrders=true){E:Env}:∀(c:Code) {σ:St} {Q:Ex->St->Prop} {ρ:zi} {a:Act} {w:World},
  u1 c=true->Rel E σ ρ a w->jH P Γ c σ Q->c.wpIn F n P (uU E Q) a w
 |.skip,σ,Q,ρ,a,w,_,hr,h=>wpIn_skip ⟨σ,ρ,h,hr⟩
 |.region id ops draw,σ,Q,ρ,a,w,hd,hr,h=>zmC hF hT hm hd hr h
 |.seq x y,σ,Q,ρ,a,w,hd,hr,h=>by
  have hd:u1 x=true/\u1 y=true:=by unfold u1 at hd;rwa [XA]at hd
  refine wpIn_seq (wpIn_mono (uQ hF hT hm x hd.1 hr h) (λe a' w' hq=>?_))
  cases e with
  |normal=>obtain⟨σ',ρ',h',hr'⟩:=hq;exact uQ hF hT hm y hd.2 hr' h'
  |exit id=>exact hq
  |ret=>exact hq
  |_=>exact hq.elim
 |.cond c x y,σ,Q,ρ,a,w,hd,hr,h=>by
  have hd:u1 x=true/\u1 y=true:=by unfold u1 at hd;rwa [XA]at hd
  obtain⟨s,h,hs⟩:=zcA h;have hg:=hs (a:=a) (λt s _ hl=>(hr.regs t s hl).2)
  split at h
  ·exact wpIn_cond_true hg.val_inv (uQ hF hT hm x hd.1 hr h)
  ·exact wpIn_cond_false hg.val_inv (uQ hF hT hm y hd.2 hr h)
  ·rename_i p i
   by_cases hp:p
   ·exact wpIn_cond_true (by rw[hg.pr_inv];simp[hp]) (uQ hF hT hm x hd.1 hr (h.yes hp))
   exact wpIn_cond_false (by rw[hg.pr_inv];simp[hp]) (uQ hF hT hm y hd.2 hr (h.no hp))
  ·obtain⟨b,hb⟩:=hg.anyb_inv
   cases b with
   |true=>exact wpIn_cond_true hb (uQ hF hT hm x hd.1 hr h.yes)
   |false=>exact wpIn_cond_false hb (uQ hF hT hm y hd.2 hr h.no)
  exact h.elim
 |.block id c,σ,Q,ρ,a,w,hd,hr,h=>by
  refine wpIn_block (wpIn_mono (uQ hF hT hm c hd hr h) (λe a' w' hq=>?_))
  cases e with
  |normal=>exact hq
  |exit j=>
   obtain⟨σ',ρ',h',hr'⟩:=hq;dsimp only at h';show(if j=id then uU E Q .normal a' w' else uU E Q (.exit j) a' w')
   split at h'
   ·rename_i hb;rw[Xe (Xj hb)];exact⟨σ',ρ',h',hr'⟩
   rename_i hb;rw[Xc (KG hb)];exact⟨σ',ρ',h',hr'⟩
  |ret=>exact hq
  |_=>exact hq.elim
 |.loop c,σ,Q,ρ,a,w,hd,hr,h=>by
  obtain⟨ι,S,I,μ,x0,h0,hsub,hround⟩:=h;obtain⟨ρ0,hr0⟩:=hsub E ρ a w hr;refine zax (λn a w=>∃x ρ,I x/\μ x=n/\Rel E (S x) ρ a w) (μ x0) ⟨x0,ρ0,h0,rfl,hr0⟩ λn a w hI=>?_
  obtain⟨x,ρ1,h1,rfl,hr1⟩:=hI;refine wpIn_mono (uQ hF hT hm c hd hr1 (hround x h1)) (λe a' w' hq=>?_)
  cases e with
  |normal=>
   obtain⟨σ',ρ',⟨x',h2,hs2,hlt⟩,hr'⟩:=hq;obtain⟨ρ2,hr2⟩:=hs2 E ρ' a' w' hr';exact⟨μ x',hlt,x',ρ2,h2,rfl,hr2⟩
  |exit id=>exact hq
  |ret=>exact hq
  |_=>exact hq.elim
 |.exit id,σ,Q,ρ,a,w,_,hr,h=>wpIn_exit ⟨σ,ρ,h,hr⟩
 |.ret,σ,Q,ρ,a,w,_,hr,h=>wpIn_ret ⟨σ,ρ,h,hr⟩
 |.rangeFunc _ _ _ _,_,_,_,_,_,_,_,h=>by cases h
 |.scope _,_,_,_,_,_,hd,_,_=>by cases hd
 |.label _,σ,Q,ρ,a,w,_,hr,h=>wpIn_label ⟨σ,ρ,h,hr⟩
 |.goto _,_,_,_,_,_,_,_,h=>by cases h
 |.refuse _,_,_,_,_,_,_,_,h=>by cases h
end
end Go.Gs
