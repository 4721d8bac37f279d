/- A ring turned the right way, the program's. -/
import Derived.Test.YtakicgnbhdpknaaGreatDoorPAU
set_option maxRecDepth 100000
set_option maxHeartbeats 8000000
set_option linter.all false
namespace Go.Gs
open Proofs.Tryz
open Go.Proofs
def zru(q:LU)(i k:Nat):Pt:=if k<i∨q.length<=k+i then q.getD (q.length-1-k) zp else q.getD k zp
def zf8(q:LU)(i:Nat):LU:=(List.range q.length).map (zru q i)
def zrv(q:LU)(i:Nat):(zf8 q i).length=q.length:=by unfold zf8;simp
def zel(q:LU)(i k:Nat):(zf8 q i)[k]?=if k<q.length then some (zru q i k) else none:=by
 unfold zf8;rw[XD]
 by_cases h:k<q.length
 .rw[Xe h,KQ h];rfl
 rw[Xc h,XG (by simp;omega)];rfl
def zrw{q:LU}{k:Nat}(h:k<q.length):q[k]?=some (q.getD k zp):=by
 rw[Xr,Xb h];rfl
def zxf(q:LU):zf8 q 0=q:=by
 refine Kw λk=>?_
 rw[zel]
 by_cases h:k<q.length
 .rw[Xe h,zrw h];unfold zru;rw[Xc oM]
 rw[Xc h,XG oM]
variable{i:Nat}
def zAd{q:LU}(h:q.length<=2*i+1):zf8 q i=q.reverse:=by
 refine Kw λk=>?_
 rw[zel]
 by_cases a:k<q.length
 .rw[Xe a,QV a,zrw oM];unfold zru
  by_cases c:k<i∨q.length<=k+i
  .rw[Xe c]
  rw[Xc c,show q.length-1-k=k by omega]
 rw[Xc a,XG (by simp;omega)]
def zxg{q:LU}(h:2*i+1<q.length):
  ((zf8 q i).set i (q.getD (q.length-1-i) zp)).set (q.length-1-i) (q.getD i zp)=zf8 q (i+1):=by
 refine Kw λk=>?_
 rw[KE,KE,XS,zrv,zel,zel]
 by_cases a:k<q.length
 .rw[Xe a,Xe a]
  by_cases c1:q.length-1-i=k
  .rw[Xe c1,Xe oM];unfold zru;rw[Xe oM,show q.length-1-k=i by omega]
  rw[Xc c1]
  by_cases b:i=k
  .rw[Xe b,Xe oM];unfold zru;rw[Xe oM,b]
  rw[Xc b];unfold zru
  by_cases c:k<i∨q.length<=k+i
  .rw[Xe c,Xe oM]
  rw[Xc c,Xc oM]
 rw[Xc oM,Xc oM,Xc a,Xc a]
def zvt{q:LU}{k:Nat}(a:k<q.length)(h:i<=k/\k+i<q.length):(zf8 q i)[k]?=some (q.getD k zp):=by
 rw[zel,Xe a];unfold zru;rw[Xc oM]
def p_rev(p:Pt)(q:LU)(f:q.length<=4096):CG0 476 [.win 0 2 1 (q.length:Int)] [(0,.arr 28 ptE 2 (p::q))] (.tup []) [(0,.arr 28 ptE 2 (p::q.reverse))]:=by
 refine ut tok mix func476 rfl rfl rfl (λ_ _=>rfl) rfl<|wb<|wa<|⟨Nat,λi=>⟨[(3,i64 ((q.length:Int)-1-i)),(2,i64 i),(0,.win 0 2 1 (q.length:Int))],[(0,.arr 28 ptE 2 (p::zf8 q i))],1,28,1⟩,λi=>2*i<=q.length,λi=>q.length-i,0,?_,?_,?_⟩
 .exact Xh _
 .exact zP [0] ⟨iR oM,rfl,rfl,tV⟩ ⟨Xg (λr=>some (Mem.arr 28 ptE 2 (p::r))) (zxf q).symm,tV⟩
 rintro i d
 refine⟨λg:(i:Int)<(q.length:Int)-1-i=>?_,λg:¬(i:Int)<(q.length:Int)-1-i=>?_⟩
 .have a:(p::zf8 q i).length=q.length+1:=by rw[Xn,zrv]
  refine wc<|wb6<|Ob.mk (by rw[a];omega) λx b=>?_
  have b:x=q.getD (q.length-1-i) zp:=by
   have e:(p::zf8 q i)[(1+((q.length:Int)-1-i)).toNat]?=some x:=b;rw[show(1+((q.length:Int)-1-i)).toNat=(q.length-1-i)+1 by omega,KW,zvt oM oM]at e;exact(Xl e).symm
  refine wb6<|Ob.mk (by rw[a];omega) λy c=>?_
  have c:y=q.getD i zp:=by
   have e:(p::zf8 q i)[(1+(i:Int)).toNat]?=some y:=c;rw[show(1+(i:Int)).toNat=i+1 by omega,KW,zvt oM oM]at e;exact(Xl e).symm
  refine wb6<|Ob.mk (by rw[a];omega) λx' _=>?_;refine⟨x,rfl,?_⟩;refine wb6<|Ob.mk (by rw[XS,a];omega) λh _=>?_;refine⟨y,rfl,?_⟩;(iterate 2 refine wa ?_);refine⟨i+1,oM,zP [0] ⟨iR oM,rfl,rfl,tV⟩ ⟨aR ?_,tV⟩,oN⟩;show((p::zf8 q i).set (1+(i:Int)).toNat x).set (1+((q.length:Int)-1-i)).toNat y=p::zf8 q (i+1)
  rw[show(1+(i:Int)).toNat=i+1 by omega,show(1+((q.length:Int)-1-i)).toNat=(q.length-1-i)+1 by omega,J3,J3,b,c,zxg oM]
 refine⟨Xg (λr=>some (Mem.arr 28 ptE 2 (p::r))) (zAd oM),.refl⟩
def zpn(q:LU)(b:q.length<=4096):CG0 248 [.sl ptE q] [] (.own 0) [(0,.arr 28 ptE 2 q)]:=by
 refine qA tok mix func248 rfl rfl rfl ?_
 by_cases a:q=[]
 .refine zdE.any (Br.mk ?_ ?_)
  .exact⟨none,.nil rfl,a⟩
  refine⟨Pt,ptE,[],rfl,wb2 ?_⟩;refine⟨q,rfl,wb17 ?_⟩;exact⟨some 1,.own _ rfl,rfl,λ_ _=>rfl⟩
 refine zdE.some (λh=>a (Xp h))<|⟨Pt,ptE,[],rfl,wb2 ?_⟩;refine⟨q,rfl,wb17 ?_⟩;exact⟨some 1,.own _ rfl,rfl,λ_ _=>rfl⟩
def zxh(p:Pt):zcw [p]=0:=by
 unfold zcw
 split
 .show vh [p] 1=0;have a:vh [p] 0=0:=by unfold vh;rfl
  have b:[p].getD 0 zp=p:=rfl;have c:[p].getD ((0+1) % [p].length) zp=p:=by show[p].getD ((0+1)%1) zp=p;rw[Nat.mod_one];rfl
  rw[zf4,a,b,c];unfold zaS;unfold wdg;rw[QO (jA p).x];omega
 rfl
def zbD(r:LU)(f:(r.length:Int)<=9223372036854771711):CX 437 [.sl ptE r] (.sl ptE (kH r)):=by
 refine zc func437<|wg (zGg r f)<|⟨λa=>?_,λa=>?_⟩
 .have e:kH r=[]:=by unfold kH;rw[Xe a]
  rw[e];exact zD
 have b:=zit a;refine zb.fresh _ _ (zpn r b) rfl (λ_ _=>rfl) (.inr (λ_ _=>rfl))<|⟨λc=>?_,λc=>?_⟩
 .have e:kH r=zvj r:=by unfold kH;rw[Xc a,Xe c]
  cases r with
  |nil=>exact absurd zny a
  |cons p q=>
   have d:q≠[]:=λh=>a (by rw[h];exact zxh p)
   have g:0<q.length:=Kg λh=>d (Xp h)
   have hL:((p::q).length:Int)=(q.length:Int)+1:=by simp only[Xn];omega
   have b:q.length<=4096:=by simp only[Xn]at b;omega
   refine Sl.win (Ob.mk ⟨oM,oM,oM,oM⟩ ?_)
   have ct:CG0 476 [.win 0 2 1 (((p::q).length:Int)-1)] [(0,.arr 28 ptE 2 (p::q))] (.tup []) [(0,.arr 28 ptE 2 (p::q.reverse))]:=by
    rw[show((p::q).length:Int)-1=(q.length:Int) by omega];exact p_rev p q b
   refine zb.hand 0 _ _ _ rfl ct (λ_ _=>rfl) (λ_ _=>rfl) rfl rfl ?_;rw[e];exact z6 rfl
 refine z6 (show r=kH r by unfold kH;rw[Xc a,Xc c])
def P45(p:Pt):Prop:=(-35184372088832<=p.x/\p.x<=35184372088832)/\(-35184372088832<=p.y/\p.y<=35184372088832)
def P45.s{p:Pt}(h:P45 p):S50 p.x/\S50 p.y:=by unfold P45 at h;omega
variable{p:Pt}
def zm.p45(h:zm p):P45 p:=by unfold zm at h;unfold P45;omega
def jb(v:Pt)(w:Int):P45 (z7 v w):=by have:=zbf v w;unfold P45;omega
def zhc(v:Pt)(w:Int):P45 ⟨(z7 v w).y,-(z7 v w).x⟩:=by have:=zbf v w;unfold P45;dsimp only;omega
variable{q:Pt}
def zAe(h:P45 p)(k:P45 q):S50 (zo p q).x/\S50 (zo p q).y:=by
 unfold P45 at h k;show S50 (p.x-q.x)/\S50 (p.y-q.y);omega
def zAf(h:P45 p)(k:P45 q):S50 (zw p q).x/\S50 (zw p q).y:=by
 unfold P45 at h k;show S50 (p.x+q.x)/\S50 (p.y+q.y);omega
def zlo{w:Int}(c:kq w):(-16384<=z8 w 2/\z8 w 2<=16384)/\y7 (z8 w 2)=z8 w 2:=by
 unfold kq at c;have:=u3 (a:=w) (b:=2) (M:=16384) oM;exact⟨oM,uL oM⟩
def zrx(a b:Pt)(w:Int):CG0 436 [wk a,wk b,i64 w] []
  (.tup [wk (if kq w/\zm a/\zm b then z7 (zo b a) w else zp),pr (kq w/\zm a/\zm b)]) []:=by
 refine zc func436 ?_
 have bad:¬(kq w/\zm a/\zm b)->LE (.tup [wk zp,bl false]) (.tup [wk (if kq w/\zm a/\zm b then z7 (zo b a) w else zp),pr (kq w/\zm a/\zm b)]):=λh=>by
  rw[Xc h];exact zO .refl (zd h)
 refine wg (zad w)<|⟨λc=>bad (λh=>c h.1),λc=>?_⟩;refine wg (qa a)<|⟨λd=>bad (λh=>d h.2.1),λd=>?_⟩;refine wg (qa b)<|⟨λe=>bad (λh=>e h.2.2),λe=>?_⟩;have h:kq w/\zm a/\zm b:=⟨Xa.1 c,Xa.1 d,Xa.1 e⟩;refine wg (zll b a h.2.2.p45.s h.2.1.p45.s)<|wg (zlm (zo b a) w) ?_;rw[Xe h];exact zO .refl (zH h)
def zGi(a b:Pt)(w:Int):CX 379 [wk a,wk b,i64 w] (.sl ptE (jX a b w)):=by
 refine zc func379 ?_
 have bad:¬(kq w/\zm a/\zm b)->LE nS (.sl ptE (jX a b w)):=λh=>by
  unfold jX;rw[Xe h];exact zD
 refine wg (zrx a b w)<|⟨λh=>bad h,λh=>?_⟩;have h:=Xa.1 h;rw[Xe h];refine wd<|wg (zll a (z7 (zo b a) w) h.2.1.p45.s (jb (zo b a) w).s)<|wg (zll b (z7 (zo b a) w) h.2.2.p45.s (jb (zo b a) w).s)<|wg (zf5 b (z7 (zo b a) w) h.2.2.p45.s (jb (zo b a) w).s)<|wg (zf5 a (z7 (zo b a) w) h.2.1.p45.s (jb (zo b a) w).s)<|⟨Pt,ptE,[zo a (z7 (zo b a) w),zo b (z7 (zo b a) w),zw b (z7 (zo b a) w),zw a (z7 (zo b a) w)],rfl,wb0 ?_⟩
 refine zb.see 3 _ (zbD [zo a (z7 (zo b a) w),zo b (z7 (zo b a) w),zw b (z7 (zo b a) w),zw a (z7 (zo b a) w)] (by show((4:Nat):Int)<=_;decide)) rfl rfl rfl<|wh ?_;unfold jX;rw[Xc (λk=>k h)];exact .refl
def p_cap(a b:Pt)(w:Int):CX 444 [wk a,wk b,i64 w] (.sl ptE (zlg a b w)):=by
 refine zc func444 ?_
 have bad:¬(kq w/\zm a/\zm b)->LE nS (.sl ptE (zlg a b w)):=λh=>by
  unfold zlg;rw[Xe h];exact zD
 refine wg (zrx a b w)<|⟨λh=>bad h,λh=>?_⟩;have h:=Xa.1 h;rw[Xe h];have c:=zbf (zo b a) w;refine wa<|wd<|wg (zll b (z7 (zo b a) w) h.2.2.p45.s (jb (zo b a) w).s)<|wg (zll b (z7 (zo b a) w) h.2.2.p45.s (jb (zo b a) w).s)<|wg (zf5 (zo b (z7 (zo b a) w)) ⟨(z7 (zo b a) w).y,-(z7 (zo b a) w).x⟩ (zAe h.2.2.p45 (jb (zo b a) w)) (zhc (zo b a) w).s)<|wg (zf5 b (z7 (zo b a) w) h.2.2.p45.s (jb (zo b a) w).s) ?_
 refine wg (zf5 (zw b (z7 (zo b a) w)) ⟨(z7 (zo b a) w).y,-(z7 (zo b a) w).x⟩ (zAf h.2.2.p45 (jb (zo b a) w)) (zhc (zo b a) w).s)<|wg (zf5 b (z7 (zo b a) w) h.2.2.p45.s (jb (zo b a) w).s)<|⟨Pt,ptE,[zo b (z7 (zo b a) w),zw (zo b (z7 (zo b a) w)) ⟨(z7 (zo b a) w).y,-(z7 (zo b a) w).x⟩,zw (zw b (z7 (zo b a) w)) ⟨(z7 (zo b a) w).y,-(z7 (zo b a) w).x⟩,zw b (z7 (zo b a) w)],rfl,wb0 ?_⟩
 refine zb.see 4 _ (zbD [zo b (z7 (zo b a) w),zw (zo b (z7 (zo b a) w)) ⟨(z7 (zo b a) w).y,-(z7 (zo b a) w).x⟩,zw (zw b (z7 (zo b a) w)) ⟨(z7 (zo b a) w).y,-(z7 (zo b a) w).x⟩,zw b (z7 (zo b a) w)] (by show((4:Nat):Int)<=_;decide)) rfl rfl rfl<|wh ?_;unfold zlg;rw[Xc (λk=>k h)];exact .refl
def zGj(p:Pt)(w:Int):CX 434 [wk p,i64 w] (.sl ptE (zef p w)):=by
 refine zc func434 ?_
 have bad:¬(kq w/\zm p)->LE nS (.sl ptE (zef p w)):=λh=>by
  unfold zef;rw[Xe h];exact zD
 refine wg (zad w)<|⟨λa=>bad (λh=>a h.1),λa=>?_⟩;refine wg (qa p)<|⟨λb=>bad (λh=>b h.2),λb=>?_⟩;have h:kq w/\zm p:=⟨Xa.1 a,Xa.1 b⟩;have c:=zlo h.1;have e:=h.1;have d:=h.2;unfold kq at e;unfold zm at d;refine wg (uZ w 2 ⟨oM,oM⟩ ⟨oM,oM⟩) ?_;rw[c.2];(iterate 8 refine wa ?_)
 refine⟨Pt,ptE,[⟨p.x-z8 w 2,p.y-z8 w 2⟩,⟨p.x+z8 w 2,p.y-z8 w 2⟩,⟨p.x+z8 w 2,p.y+z8 w 2⟩,⟨p.x-z8 w 2,p.y+z8 w 2⟩],rfl,wb0 ?_⟩;refine zb.see 1 _ (zbD [⟨p.x-z8 w 2,p.y-z8 w 2⟩,⟨p.x+z8 w 2,p.y-z8 w 2⟩,⟨p.x+z8 w 2,p.y+z8 w 2⟩,⟨p.x-z8 w 2,p.y+z8 w 2⟩] (by show((4:Nat):Int)<=_;decide)) rfl rfl rfl ?_;unfold zef;rw[Xc (λk=>k h)];exact .refl
def zAg(a b:Pt)(w:Int):CX 408 [wk a,wk b,i64 w] (.sl ptE (jX a b w)):=by
 refine zc func408<|wg (zvn a b w)<|⟨λh=>?_,λh=>?_⟩
 .refine⟨Pt,ptE,[],rfl,wb2 ?_⟩;exact z6 (show[]=jX a b w by unfold jX;rw[Xe h])
 have h:kq w/\zm a/\zm b:=Xa.1 h;refine wg (zir b a h.2.2.p45.s h.2.1.p45.s)<|wg (zg8 (zo b a) w)<|wd<|wg (zir a (z7 (zo b a) w) h.2.1.p45.s (jb (zo b a) w).s)<|wg (zir b (z7 (zo b a) w) h.2.2.p45.s (jb (zo b a) w).s)<|wg (zf6 b (z7 (zo b a) w) h.2.2.p45.s (jb (zo b a) w).s) ?_;refine wg (zf6 a (z7 (zo b a) w) h.2.1.p45.s (jb (zo b a) w).s)<|⟨Pt,ptE,[zo a (z7 (zo b a) w),zo b (z7 (zo b a) w),zw b (z7 (zo b a) w),zw a (z7 (zo b a) w)],rfl,wb0 ?_⟩
 refine zb.see 3 _ (zbC [zo a (z7 (zo b a) w),zo b (z7 (zo b a) w),zw b (z7 (zo b a) w),zw a (z7 (zo b a) w)]) rfl rfl rfl<|wh ?_;unfold jX;rw[Xc (λk=>k h)];exact .refl
def r_cap(a b:Pt)(w:Int):CX 412 [wk a,wk b,i64 w] (.sl ptE (zlg a b w)):=by
 refine zc func412<|wg (zvn a b w)<|⟨λh=>?_,λh=>?_⟩
 .refine⟨Pt,ptE,[],rfl,wb2 ?_⟩;exact z6 (show[]=zlg a b w by unfold zlg;rw[Xe h])
 have h:kq w/\zm a/\zm b:=Xa.1 h;refine wg (zir b a h.2.2.p45.s h.2.1.p45.s)<|wg (zg8 (zo b a) w) ?_;have c:=zbf (zo b a) w;refine wa<|wd<|wg (zir b (z7 (zo b a) w) h.2.2.p45.s (jb (zo b a) w).s)<|wg (zir b (z7 (zo b a) w) h.2.2.p45.s (jb (zo b a) w).s)<|wg (zf6 (zo b (z7 (zo b a) w)) ⟨(z7 (zo b a) w).y,-(z7 (zo b a) w).x⟩ (zAe h.2.2.p45 (jb (zo b a) w)) (zhc (zo b a) w).s)<|wg (zf6 b (z7 (zo b a) w) h.2.2.p45.s (jb (zo b a) w).s) ?_
 refine wg (zf6 (zw b (z7 (zo b a) w)) ⟨(z7 (zo b a) w).y,-(z7 (zo b a) w).x⟩ (zAf h.2.2.p45 (jb (zo b a) w)) (zhc (zo b a) w).s)<|wg (zf6 b (z7 (zo b a) w) h.2.2.p45.s (jb (zo b a) w).s)<|⟨Pt,ptE,[zo b (z7 (zo b a) w),zw (zo b (z7 (zo b a) w)) ⟨(z7 (zo b a) w).y,-(z7 (zo b a) w).x⟩,zw (zw b (z7 (zo b a) w)) ⟨(z7 (zo b a) w).y,-(z7 (zo b a) w).x⟩,zw b (z7 (zo b a) w)],rfl,wb0 ?_⟩
 refine zb.see 4 _ (zbC [zo b (z7 (zo b a) w),zw (zo b (z7 (zo b a) w)) ⟨(z7 (zo b a) w).y,-(z7 (zo b a) w).x⟩,zw (zw b (z7 (zo b a) w)) ⟨(z7 (zo b a) w).y,-(z7 (zo b a) w).x⟩,zw b (z7 (zo b a) w)]) rfl rfl rfl<|wh ?_;unfold zlg;rw[Xc (λk=>k h)];exact .refl
def zGk(p:Pt)(w:Int):CX 410 [wk p,i64 w] (.sl ptE (zef p w)):=by
 refine zc func410<|wg (zvn p p w)<|⟨λh=>?_,λh=>?_⟩
 .refine⟨Pt,ptE,[],rfl,wb2 ?_⟩;exact z6 (show[]=zef p w by unfold zef;rw[Xe (λk=>h ⟨k.1,k.2,k.2⟩)])
 have h:kq w/\zm p:=⟨(Xa.1 h).1,(Xa.1 h).2.1⟩;have a:=zlo h.1;have c:=h.1;have b:=h.2;unfold kq at c;unfold zm at b;refine wg (ug w 2 ⟨oM,oM⟩ ⟨oM,oM⟩) ?_;rw[a.2];(iterate 8 refine wa ?_);refine⟨Pt,ptE,[⟨p.x-z8 w 2,p.y-z8 w 2⟩,⟨p.x+z8 w 2,p.y-z8 w 2⟩,⟨p.x+z8 w 2,p.y+z8 w 2⟩,⟨p.x-z8 w 2,p.y+z8 w 2⟩],rfl,wb0 ?_⟩
 refine zb.see 1 _ (zbC [⟨p.x-z8 w 2,p.y-z8 w 2⟩,⟨p.x+z8 w 2,p.y-z8 w 2⟩,⟨p.x+z8 w 2,p.y+z8 w 2⟩,⟨p.x-z8 w 2,p.y+z8 w 2⟩]) rfl rfl rfl ?_;unfold zef;rw[Xc (λk=>k h)];exact .refl
def wayN(q:Pt):Pt:=⟨-q.y,q.x⟩
def zxi:∀i:Nat,i<12->yg.take (4+i)++[wayN ((yg.take (4+i)).getD i zp)]=yg.take (4+(i+1)):=by decide +kernel
def zpo:∀q∈yg,(-16384<=q.x/\q.x<=16384)/\(-16384<=q.y/\q.y<=16384):=by decide +kernel
def zvu{x:Pt}(h:(yg.take (4+i))[i]?=some x):x=(yg.take (4+i)).getD i zp:=by
 rw[Xr,h];rfl
def zGl:CX 463 [] (.sl ptE yg):=by
 refine zc func463<|⟨Pt,ptE,yg.take 4,rfl,wb0 ?_⟩;refine⟨Nat,λi=>⟨[(2,i64 i),(1,.own 0)],[(0,.arr 28 ptE 2 (yg.take (4+i)))],1,28,0⟩,λi=>i<=12,λi=>12-i,0,?_,?_,?_⟩
 .exact Xh _
 .exact zf [0]
 rintro i d
 refine⟨λg=>?_,λg=>?_⟩
 .have g:(i:Int)<12:=g
  have b:(yg.take (4+i)).length=4+i:=by
   rw[Xo,show yg.length=16 from rfl];omega
  refine wd<|wb<|Ob.mk (by rw[b];omega) λx a=>?_;have a:x=(yg.take (4+i)).getD i zp:=zvu a;have f:=zpo x (XO (i:=4+i) (by rw[a,Xr,Xb oM];exact X2 _));refine wa<|wb<|Ob.mk (by rw[b];omega) λy c=>?_;have c:y=x:=(zvu c).trans a.symm;rw[c];refine⟨Pt,ptE,[wayN x],rfl,wb0 ?_⟩
  refine⟨[wayN x],rfl,Ob.mk ⟨(by show _*(16:Int)<=_;simp only[b,Xn,Xs];omega),(by simp only[b,Xn,Xs];omega),dC,λ_ _=>rfl⟩ ?_⟩;exact wh<|wa<|⟨i+1,oM,zt [2] ⟨aR (show yg.take (4+i)++[wayN x]=yg.take (4+(i+1)) by rw[a];exact zxi i oM),tV⟩,oN⟩
 have e:i=12:=by have g:¬(i:Int)<12:=g;omega
 subst e;exact z6 rfl
def zem(p:Pt)(w:Int)(q:Pt):Pt:=zw p ⟨z8 (q.x*w) 32768,z8 (q.y*w) 32768⟩
variable{x:Int}
def ze8{w:Int}(d: -16384<=x/\x<=16384)(c:kq w):(-268435456<=x*w/\x*w<=268435456)/\(-268435456<=z8 (x*w) 32768/\z8 (x*w) 32768<=268435456)/\y7 (z8 (x*w) 32768)=z8 (x*w) 32768:=by
 unfold kq at c;have h:=jB (A:=16384) (B:=16384) (a:=x) (b:=w) oM oM;have:=u3 (a:=x*w) (b:=32768) (M:=268435456) oM;exact⟨oM,oM,uL oM⟩
def ztS(p:Pt)(w:Int):CX 411 [wk p,i64 w] (.sl ptE (vX p w)):=by
 refine zc func411<|wg (zvn p p w)<|⟨λh=>?_,λh=>?_⟩
 .refine⟨Pt,ptE,[],rfl,wb2 ?_⟩;exact z6 (show[]=vX p w by unfold vX;rw[Xe (λk=>h ⟨k.1,k.2,k.2⟩)])
 have h:kq w/\zm p:=⟨(Xa.1 h).1,(Xa.1 h).2.1⟩;refine wg zGl<|⟨Pt,ptE,[],rfl,wb2 ?_⟩;refine⟨Nat,λi=>⟨[(7,i64 i),(6,.own 1),(5,.sl ptE yg),(2,.loc 0 0),(1,i64 w)],[(1,.arr 28 ptE 2 ((yg.take i).map (zem p w))),(0,.box 28 (ptE p))],2,46,0⟩,λi=>i<=16,λi=>16-i,0,?_,?_,?_⟩
 .exact Xh _
 .exact zf [0,1]
 rintro i m
 intro f;have hL:yg.length=16:=rfl;refine⟨λg=>?_,λg=>?_⟩
 .have g:(i:Int)<(yg.length:Int):=g
  have d:((yg.take i).map (zem p w)).length=i:=by
   rw[Xw,Xo];omega
  refine wd<|wb λx(a:yg[i]?=some x)=>?_;have c:=zpo x (Xf a);have j:=ze8 c.1 h.1;have l:=ze8 c.2 h.1;refine wa<|wg (ug (x.x*w) 32768 ⟨oM,oM⟩ ⟨dC,dC⟩) ?_;rw[j.2.2];refine wb λy b=>?_;have b:y=x:=Xl ((show yg[i]?=some y from b).symm.trans a);rw[b];refine wa<|wg (ug (x.y*w) 32768 ⟨oM,oM⟩ ⟨dC,dC⟩) ?_;rw[l.2.2];refine wg (zf6 p ⟨z8 (x.x*w) 32768,z8 (x.y*w) 32768⟩ h.2.p45.s ⟨oN,oN⟩) ?_
  refine⟨Pt,ptE,[zem p w x],rfl,wb0 ?_⟩;refine⟨[zem p w x],rfl,Ob.mk ⟨(by show _*(16:Int)<=_;simp only[d,Xn,Xs];omega),(by simp only[d,Xn,Xs];omega),dC,λ_ _=>rfl⟩ ?_⟩;exact wh<|wa<|⟨i+1,oM,zt [0,3] ⟨aR (by rw[Xm,a,XA];rfl),rfl,tV⟩,oN⟩
 have e:i=16:=by have g:¬(i:Int)<(yg.length:Int):=g;omega
 subst e;refine zb.see 1 _ (zbC (yg.map (zem p w))) rfl rfl rfl<|z6 (show kH (yg.map (zem p w))=vX p w from ?_);unfold vX;rw[Xc (λk=>k h)];rfl
def zfF(p:Pt):Prop:=(-2097152<=p.x/\p.x<=2097152)/\(-2097152<=p.y/\p.y<=2097152)
def zcy(a:zm p)(b:zm q):zfF (zo p q):=by
 unfold zm at a b;show(-2097152<=p.x-q.x/\p.x-q.x<=2097152)/\(-2097152<=p.y-q.y/\p.y-q.y<=2097152);omega
def zlp(a:zfF p)(b:zfF q):(-4398046511104<=p.x*q.y/\p.x*q.y<=4398046511104)/\(-4398046511104<=p.y*q.x/\p.y*q.x<=4398046511104):=by
 have c:=jB a.1 b.2;have d:=jB a.2 b.1;omega
def zry(p q:Pt)(a:zfF p)(b:zfF q):CX 323 [wk p,wk q] (i64 (wdg p q)):=by
 have h:=zlp a b;refine zc func323 ?_;(iterate 3 refine wa ?_);exact .refl
def zvv(w:Int):CX 477 [i64 w] (pr (kq w)):=by
 refine zc func477<|Br.mk (λh=>?_) (λh=>zd (λk=>h k.1));exact zB ⟨λk=>⟨h,k⟩,λk=>k.2⟩
def zvw(w:Int):CX 485 [i64 w] (pr (kq w)):=by
 refine zc func485<|Br.mk (λh=>?_) (λh=>zd (λk=>h k.1));exact zB ⟨λk=>⟨h,k⟩,λk=>k.2⟩
def zAh(a b:Pt)(c:S50 a.x/\S50 a.y)(d:S50 b.x/\S50 b.y):CX 478 [wk a,wk b] (wk (zo b a)):=by
 refine zc func478 ?_;(iterate 2 refine wa ?_);exact .refl
def zxj(n:Pt):zo zp n=zim n:=by
 unfold zo zim zp;dsimp only;rw[Int.zero_sub,Int.zero_sub]
def zE4(n:Pt)(h:S50 n.x/\S50 n.y):CX 478 [wk n,wk zp] (wk (zim n)):=by
 have c:=zAh n zp h ⟨dC,dC⟩
 rwa [zxj]at c
def zlq(a:zm p)(b:zm q):zac p q=zo p q:=by
 unfold zac;rw[zab a,zab b]
def outE(o:Pt×Pt×Bool):SV:=.tup [wk o.1,wk o.2.1,pr (o.2.2=true)]
def vD{o:Pt×Pt×Bool}{n m:Pt}{b:Bool}(h:o=(n,m,b)):LE (.tup [wk n,wk m,bl b]) (outE o):=by
 subst h;exact zaP (.C (.C (.cons zu1 .nil)))
def zDg(a v b:Pt)(w:Int):CX 441 [wk a,wk v,wk b,i64 w] (outE (qx a v b w)):=by
 refine zc func441 ?_;have bad:¬(zm a/\zm v/\zm b/\kq w)->qx a v b w=(zp,zp,false):=λh=>by unfold qx;rw[Xe h]
 refine wg (qa a)<|⟨λd=>vD (bad (λh=>d h.1)),λd=>?_⟩;refine wg (qa v)<|⟨λf=>vD (bad (λh=>f h.2.1)),λf=>?_⟩;refine wg (qa b)<|⟨λg=>vD (bad (λh=>g h.2.2.1)),λg=>?_⟩;refine wg (zvv w)<|⟨λj=>vD (bad (λh=>j h.2.2.2)),λj=>?_⟩;have l:=Xa.1 d;have c:=Xa.1 f;have m:=Xa.1 g;have o:=Xa.1 j;have r:=zcy c l;have t:=zcy m c
 have e:qx a v b w=if wdg (zo v a) (zo b v)=0 then(zp,zp,false) else if 0<wdg (zo v a) (zo b v) then(zim (z7 (zo v a) w),zim (z7 (zo b v) w),true) else(z7 (zo v a) w,z7 (zo b v) w,true):=by
  unfold qx;rw[Xc (λk=>k ⟨l,c,m,o⟩)]
 have u:=zlp r t;refine wc<|wg (zAh a v l.p45.s c.p45.s)<|wg (zAh v b c.p45.s m.p45.s)<|wc<|wg (zlm (zo v a) w)<|wg (zlm (zo b v) w) ?_;(iterate 3 refine wa ?_);refine⟨λk:wdg (zo v a) (zo b v)=0=>?_,λk:¬wdg (zo v a) (zo b v)=0=>?_⟩
 .exact vD (e.trans (Xe k))
 refine⟨λn:0<wdg (zo v a) (zo b v)=>?_,λn:¬0<wdg (zo v a) (zo b v)=>?_⟩
 .exact wc<|wg (zE4 (z7 (zo v a) w) (jb _ _).s)<|wg (zE4 (z7 (zo b v) w) (jb _ _).s)<|vD (e.trans ((Xc k).trans (Xe n)))
 exact wd<|wh<|vD (e.trans ((Xc k).trans (Xc n)))
def zDh(a v b:Pt)(w:Int):CX 460 [wk a,wk v,wk b,i64 w] (outE (qx a v b w)):=by
 refine zc func460 ?_;have bad:¬(zm a/\zm v/\zm b/\kq w)->qx a v b w=(zp,zp,false):=λh=>by unfold qx;rw[Xe h]
 refine wg (ki a)<|⟨λd=>vD (bad (λh=>d h.1)),λd=>?_⟩;refine wg (ki v)<|⟨λf=>vD (bad (λh=>f h.2.1)),λf=>?_⟩;refine wg (ki b)<|⟨λg=>vD (bad (λh=>g h.2.2.1)),λg=>?_⟩;refine wg (zvw w)<|⟨λj=>vD (bad (λh=>j h.2.2.2)),λj=>?_⟩;have l:=Xa.1 d;have c:=Xa.1 f;have o:=Xa.1 g;have t:=Xa.1 j;have u:=zcy c l;have y:=zcy o c
 have e:qx a v b w=if wdg (zo v a) (zo b v)=0 then(zp,zp,false) else if 0<wdg (zo v a) (zo b v) then(zim (z7 (zo v a) w),zim (z7 (zo b v) w),true) else(z7 (zo v a) w,z7 (zo b v) w,true):=by
  unfold qx;rw[Xc (λk=>k ⟨l,c,o,t⟩)]
 have c1:=znr v a;rw[zlq c l]at c1;have s:=znr b v;rw[zlq o c]at s;have z:=zbf (zo v a) w;have A:=zbf (zo b v) w;refine wc<|wg c1<|wg s<|wc<|wg (zg8 (zo v a) w)<|wg (zg8 (zo b v) w) ?_;refine wg (zry (zo v a) (zo b v) u y)<|⟨λk=>?_,λk=>?_⟩
 .exact vD (e.trans (Xe k))
 refine⟨λr=>?_,λr=>?_⟩
 .refine wd ?_;(iterate 4 refine wa ?_);exact wh<|wd<|wh<|vD (n:=zim (z7 (zo v a) w)) (m:=zim (z7 (zo b v) w)) (e.trans ((Xc k).trans (Xe r)))
 exact wd<|wh<|vD (e.trans ((Xc k).trans (Xc r)))
def wcell(i k j:Nat):Pt:=if j%4<i∨(j%4=i/\j/4<k) then yg.getD j zp else zp
def ziu(i k:Nat):LR:=(List.range 16).flatMap λj=>ptE (wcell i k j)
def zGm:CX 473 [] (.agg (ziu 4 0)):=by
 refine zc func473<|⟨Nat,λi=>⟨[(10,i64 i),(9,.agg [i64 16384,i64 0,i64 15137,i64 6270,i64 11585,i64 11585,i64 6270,i64 15137]),(1,.loc 1 0),(0,.loc 0 0)],[(1,.box 405 (ziu i 0)),(0,.box 405 (ziu 0 0))],2,28,0⟩,λi=>i<=4,λi=>4-i,0,?_,?_,?_⟩
 .exact Xh _
 .exact zf [0,1]
 rintro i hi
 rcases Kc i 4 with c|c
 .obtain⟨j,e⟩:∃j,j=i:=⟨_,rfl⟩;obtain⟨n,b⟩:∃n,i+1=n:=⟨_,rfl⟩;obtain rfl|rfl|rfl|rfl:i=0∨i=1∨i=2∨i=3:=oM
  all_goals
   refine we<|⟨Nat,λk=>⟨[(14,i64 k),(3,.loc 2 0),(2,i64 j),(10,i64 j),(9,.agg [i64 16384,i64 0,i64 15137,i64 6270,i64 11585,i64 11585,i64 6270,i64 15137]),(1,.loc 1 0),(0,.loc 0 0)],[(2,.box 28 (ptE (yg.getD ((4*k+j)%16) zp))),(1,.box 405 (ziu j k)),(0,.box 405 (ziu 0 0))],3,28,0⟩,λk=>k<=4,λk=>4-k,0,Xh _,?_,?_⟩
   .subst e;exact zf [0,1,2]
   intro k f
   rcases Kc k 4 with d|d
   .have q:=zGb (yg.getD (4*k+j) zp);obtain⟨m,a⟩:∃m,k+1=m:=⟨_,rfl⟩;obtain rfl|rfl|rfl|rfl:k=0∨k=1∨k=2∨k=3:=oM
    all_goals
     subst e;refine we<|Ar.fit dC<|Ar.fit dC<|wg q<|Ar.fit dC<|⟨m,oM,?_,oN⟩;subst a;exact zf [0,1,2]
   obtain rfl:k=4:=by omega
   subst e;refine⟨λh=>absurd h dC,λ_=>?_⟩;refine Ar.fit dC<|⟨n,oM,?_,oN⟩;subst b;exact zf [0,1]
 obtain rfl:i=4:=by omega
 refine⟨λh=>absurd h dC,λ_=>?_⟩;exact .refl
def ztT(p:Pt)(w:Int):CX 435 [wk p,i64 w] (.sl ptE (vX p w)):=by
 refine zc func435 ?_
 have bad:¬(kq w/\zm p)->LE nS (.sl ptE (vX p w)):=λh=>by
  unfold vX;rw[Xe h];exact zD
 refine wg (zad w)<|⟨λa=>bad (λh=>a h.1),λa=>?_⟩;refine wg (qa p)<|⟨λb=>bad (λh=>b h.2),λb=>?_⟩;have h:kq w/\zm p:=⟨Xa.1 a,Xa.1 b⟩;refine wg zGm<|⟨Nat,λi=>⟨[(17,i64 i),(16,.agg (ziu 4 0)),(5,.own 1),(2,.loc 0 0),(1,i64 w)],[(1,.arr 28 ptE 2 ((yg.take i).map (zem p w))),(0,.box 28 (ptE p))],2,39,0⟩,λi=>i<=16,λi=>16-i,0,?_,?_,?_⟩
 .exact Xh _
 .exact zC [(0,some 0),(1,none)]
 rintro i hi
 rcases Kc i 16 with c|c
 .have d:=zpo (yg.getD i zp) (by rw[Xr,Xb (show i<yg.length from c)];exact X2 _);have j:=ze8 d.1 h.1;have l:=ze8 d.2 h.1;have m: -9223372036854775808<=(yg.getD i zp).x*w/\(yg.getD i zp).x*w<=9223372036854775807:=oM;have n: -9223372036854775808<=(yg.getD i zp).y*w/\(yg.getD i zp).y*w<=9223372036854775807:=oM;have e:=uZ ((yg.getD i zp).x*w) 32768 ⟨oM,oM⟩ ⟨dC,dC⟩;have f:=uZ ((yg.getD i zp).y*w) 32768 ⟨oM,oM⟩ ⟨dC,dC⟩;rw[j.2.2]at e;rw[l.2.2]at f
  obtain⟨L,hL⟩:∃L,zem p w (yg.getD i zp)=L:=⟨_,rfl⟩;have g:=zf5 p ⟨z8 ((yg.getD i zp).x*w) 32768,z8 ((yg.getD i zp).y*w) 32768⟩ h.2.p45.s ⟨oN,oN⟩;rw[show zw p _=L from hL]at g;have r:((yg.take i).map (zem p w)).length<=16:=by rw[Xw,Xo];omega
  obtain⟨k,o⟩:∃k,i+1=k:=⟨_,rfl⟩;clear hi d j l;obtain rfl|rfl|rfl|rfl|rfl|rfl|rfl|rfl|rfl|rfl|rfl|rfl|rfl|rfl|rfl|rfl:i=0∨i=1∨i=2∨i=3∨i=4∨i=5∨i=6∨i=7∨i=8∨i=9∨i=10∨i=11∨i=12∨i=13∨i=14∨i=15:=oM
  all_goals
   refine we<|wd<|Ar.fit m<|wg e<|Ar.fit n<|wg f ?_;refine wg g<|⟨Pt,ptE,[L],rfl,wb0 ?_⟩;refine⟨[L],rfl,Ob.mk ⟨by simp only[Xn,Xs];omega,by simp only[Xn,Xs];omega,dC,λ_ _=>rfl⟩ ?_⟩;refine wh<|Ar.fit dC<|⟨k,oM,?_,oN⟩;subst o hL;exact zf [0,4]
 obtain rfl:i=16:=by omega
 refine⟨λh=>absurd h dC,λ_=>?_⟩;refine zb.see 1 _ (zbD (yg.map (zem p w)) (by show((16:Nat):Int)<=_;decide)) rfl rfl rfl<|z6 (show kH (yg.map (zem p w))=vX p w from ?_);unfold vX;rw[Xc (λk=>k h)];rfl
def ze9(p q:Pt)(a:S50 p.x/\S50 p.y)(b:S50 q.x/\S50 q.y):CX 442 [wk p,wk q] (wk (zw p q)):=by
 refine zc func442 ?_;(iterate 2 refine wa ?_);exact .refl
def zpp(r:LU):CX 440 [.sl ptE r] (.sl zk (kO r)):=by
 refine zc func440 λa=>?_;refine⟨λh=>?_,λh=>?_⟩
 .have e:kO r=[]:=by unfold kO;rw[Xe (Xp (by have h:(r.length:Int)=0:=h;omega))]
  rw[e];exact zD
 refine⟨LU,zk,[r],rfl,wb0 ?_⟩;refine z6 (show[r]=kO r from ?_);unfold kO;rw[Xc (λe=>h (by rw[e];rfl))]
def zAi(a b:Int)(f:0<=a/\a<18446744073709551616)(g:0<=b/\b<18446744073709551616):
  CX 479 [u64 a,u64 b] (.tup [u64 (a*b/18446744073709551616),u64 (a*b%18446744073709551616)]):=by
 obtain⟨x,rfl⟩:=Qu f.1;obtain⟨y,rfl⟩:=Qu g.1;have c:=zu8 x y oM oM;have d:((x*y/18446744073709551616:Nat):Int)=(x:Int)*y/18446744073709551616:=by rw[Yj,Kb];rfl
 have e:((x*y%18446744073709551616:Nat):Int)=(x:Int)*y%18446744073709551616:=by rw[Q1,Kb];rfl
 rw[d,e]at c;exact c
def ziv(a:zm p)(b:zm q):zfF (zw p q):=by
 unfold zm at a b;show(-2097152<=p.x+q.x/\p.x+q.x<=2097152)/\(-2097152<=p.y+q.y/\p.y+q.y<=2097152);omega
def zlr(a:zm p)(b:zm q):addP p q=zw p q:=by
 unfold addP;rw[zab a,zab b]
def tipE(o:Pt×Bool):SV:=.tup [wk o.1,pr (o.2=true)]
def uk{o:Pt×Bool}{n:Pt}{b:Bool}(h:o=(n,b)):LE (.tup [wk n,bl b]) (tipE o):=by
 subst h;exact zO .refl zu1
def zcz{w:Int}(h: -2097152<=x/\x<=2097152)(c:kq w):(-34359738368<=x*w/\x*w<=34359738368)/\(-562949953421312<=x*w*w/\x*w*w<=562949953421312)/\(1<=w*w/\w*w<=268435456):=by
 unfold kq at c;have d:=jB (A:=2097152) (B:=16384) (a:=x) (b:=w) oM oM;have e:=jB (A:=34359738368) (B:=16384) (a:=x*w) (b:=w) oM oM;have f:=jB (A:=16384) (B:=16384) (a:=w) (b:=w) oM oM;have g:=QZ (show 0<w by omega) (show 0<w by omega);omega
def zpq(x w q:Int)(b: -2097152<=x/\x<=2097152)(a:kq w)(c:0<=q/\q<=8796093022208):CX 480 [i64 x,.ptr [i64 w],.ptr [i64 q]] (i64 (z8 (x*w*w) (2*q))):=by
 have h:=zcz b a;refine zc func480 ?_;(iterate 3 refine wa ?_);exact wg (uZ (x*w*w) (2*q) ⟨oM,oM⟩ ⟨oM,oM⟩)<|ze (uL oM)
def p_tip(n m:Pt)(w lim:Int):CX 443 [wk n,wk m,i64 w,i64 lim] (tipE (u1 n m w lim)):=by
 refine zc func443 ?_;have bad:¬(zm n/\zm m/\kq w/\256<=lim/\lim<=65536)->u1 n m w lim=(zp,false):=λh=>by unfold u1;rw[Xe h]
 refine wg (qa n)<|⟨λo=>uk (bad (λh=>o h.1)),λo=>?_⟩;refine wg (qa m)<|⟨λr=>uk (bad (λh=>r h.2.1)),λr=>?_⟩;refine wg (zvv w)<|⟨λu=>uk (bad (λh=>u h.2.2.1)),λu=>?_⟩;refine⟨λg=>uk (bad (λh=>by have g:lim<256:=g;omega)),λg=>?_⟩;refine⟨λj=>uk (bad (λh=>by have j:65536<lim:=j;omega)),λj=>?_⟩;have z:=Xa.1 o;have v:=Xa.1 r;have f:=Xa.1 u
 have E:256<=lim/\lim<=65536:=⟨by have g:¬lim<256:=g;omega,by have j:¬65536<lim:=j;omega⟩;have c:=ziv z v
 have e:u1 n m w lim=if (zw n m).x*(zw n m).x+(zw n m).y*(zw n m).y=0∨lim*lim*((zw n m).x*(zw n m).x+(zw n m).y*(zw n m).y)<256*w*(256*w) then(zp,false)
   else(⟨z8 ((zw n m).x*w*w) (2*((zw n m).x*(zw n m).x+(zw n m).y*(zw n m).y)),z8 ((zw n m).y*w*w) (2*((zw n m).x*(zw n m).x+(zw n m).y*(zw n m).y))⟩,true):=by
  unfold u1;rw[Xc (λk=>k ⟨z,v,f,E⟩)]
 refine wg (ze9 n m z.p45.s v.p45.s) ?_;generalize zw n m=s at*;have K:=jB (A:=2097152) (B:=2097152) (a:=s.x) (b:=s.x) c.1 c.1;have L:=jB (A:=2097152) (B:=2097152) (a:=s.y) (b:=s.y) c.2 c.2;have p1:=jf s.x;have J:=jf s.y;have H:=jB (A:=65536) (B:=65536) (a:=lim) (b:=lim) oM oM;have I:=jf lim;have t:=zcz c.1 f;have G:=f;unfold kq at G;(iterate 6 refine wa ?_);have l:0<=s.x*s.x+s.y*s.y/\s.x*s.x+s.y*s.y<=8796093022208:=oM
 refine wg (zAi (lim*lim) (s.x*s.x+s.y*s.y) oM oM)<|⟨λd=>?_,λd=>?_⟩
 .have d:s.x*s.x+s.y*s.y=0:=d;exact uk (e.trans (Xe (.inl d)))
 have d:¬s.x*s.x+s.y*s.y=0:=d;have F:256*w*256*w=256*w*(256*w):=by grind
 have hP:0<=lim*lim*(s.x*s.x+s.y*s.y):=XI oM oM
 have go:¬lim*lim*(s.x*s.x+s.y*s.y)<256*w*(256*w)->u1 n m w lim=(⟨z8 (s.x*w*w) (2*(s.x*s.x+s.y*s.y)),z8 (s.y*w*w) (2*(s.x*s.x+s.y*s.y))⟩,true):=λh=>
  e.trans (Xc (λk=>k.elim d h))
 have M:256*w*256*w=65536*(w*w):=by grind
 refine⟨λC:lim*lim*(s.x*s.x+s.y*s.y)/18446744073709551616=0=>?_,λC:¬lim*lim*(s.x*s.x+s.y*s.y)/18446744073709551616=0=>?_⟩
 ·(iterate 4 refine wa ?_);refine⟨λD:lim*lim*(s.x*s.x+s.y*s.y)%18446744073709551616<256*w*256*w=>?_,λD:¬lim*lim*(s.x*s.x+s.y*s.y)%18446744073709551616<256*w*256*w=>?_⟩
  .exact uk (e.trans (Xe (.inr (by generalize lim*lim*(s.x*s.x+s.y*s.y)=P at*;omega))))
  exact wc<|wg (zpq s.x w (s.x*s.x+s.y*s.y) c.1 f l)<|wg (zpq s.y w (s.x*s.x+s.y*s.y) c.2 f l)<|uk (go (by generalize lim*lim*(s.x*s.x+s.y*s.y)=P at*;omega))
 exact wc<|wg (zpq s.x w (s.x*s.x+s.y*s.y) c.1 f l)<|wg (zpq s.y w (s.x*s.x+s.y*s.y) c.2 f l)<|uk (go (by generalize lim*lim*(s.x*s.x+s.y*s.y)=P at*;omega))
def r_tip(n m:Pt)(w lim:Int):CX 461 [wk n,wk m,i64 w,i64 lim] (tipE (u1 n m w lim)):=by
 refine zc func461 ?_;have bad:¬(zm n/\zm m/\kq w/\256<=lim/\lim<=65536)->u1 n m w lim=(zp,false):=λh=>by unfold u1;rw[Xe h]
 refine wg (ki n)<|⟨λl=>uk (bad (λh=>l h.1)),λl=>?_⟩;refine wg (ki m)<|⟨λo=>uk (bad (λh=>o h.2.1)),λo=>?_⟩;refine wg (zvw w)<|⟨λr=>uk (bad (λh=>r h.2.2.1)),λr=>?_⟩;refine⟨λd=>uk (bad (λh=>by have d:lim<256:=d;omega)),λd=>?_⟩;refine⟨λf=>uk (bad (λh=>by have f:65536<lim:=f;omega)),λf=>?_⟩;have C:=Xa.1 l;have z:=Xa.1 o;have j:=Xa.1 r
 have E:256<=lim/\lim<=65536:=⟨by have d:¬lim<256:=d;omega,by have f:¬65536<lim:=f;omega⟩;have c:=ziv C z
 have e:u1 n m w lim=if (zw n m).x*(zw n m).x+(zw n m).y*(zw n m).y=0∨lim*lim*((zw n m).x*(zw n m).x+(zw n m).y*(zw n m).y)<256*w*(256*w) then(zp,false)
   else(⟨z8 ((zw n m).x*w*w) (2*((zw n m).x*(zw n m).x+(zw n m).y*(zw n m).y)),z8 ((zw n m).y*w*w) (2*((zw n m).x*(zw n m).x+(zw n m).y*(zw n m).y))⟩,true):=by
  unfold u1;rw[Xc (λk=>k ⟨C,z,j,E⟩)]
 have ca:=zz1 n m;rw[zlr C z]at ca;refine wg ca ?_;generalize zw n m=s at*;have N:=jB (A:=2097152) (B:=2097152) (a:=s.x) (b:=s.x) c.1 c.1;have O:=jB (A:=2097152) (B:=2097152) (a:=s.y) (b:=s.y) c.2 c.2;have p1:=jf s.x;have M:=jf s.y;have K:=jB (A:=65536) (B:=65536) (a:=lim) (b:=lim) oM oM;have L:=jf lim;have t:=zcz c.1 j;have P:=zcz c.2 j;have F:=j;unfold kq at F;(iterate 3 refine wa ?_);have J:0<=s.x*s.x+s.y*s.y/\s.x*s.x+s.y*s.y<=8796093022208:=oM;refine wa ?_
 refine⟨λu:s.x*s.x+s.y*s.y=0=>?_,λu:¬s.x*s.x+s.y*s.y=0=>?_⟩
 .exact uk (e.trans (Xe (.inl u)))
 have Q:256*w*(256*w)=65536*(w*w):=by grind
 have D:=c;unfold zfF at D;have G:=jq (n:=256*w*(256*w)) ⟨oM,oM⟩;have H:=jq (n:=lim*lim) ⟨oM,oM⟩;have I:=jq (n:=s.x*s.x+s.y*s.y) ⟨oM,oM⟩;have z4:=k9 (lim*lim) (s.x*s.x+s.y*s.y);unfold jr at G H I z4;refine wa<|wg (jR (256*w*(256*w)) ⟨oM,oM⟩)<|wa<|wg (jR (lim*lim) ⟨oM,oM⟩)<|wg (jR (s.x*s.x+s.y*s.y) ⟨oM,oM⟩)<|wg (zc5 (ofZ (lim*lim)) (ofZ (s.x*s.x+s.y*s.y)) (by rw[jV];omega) (by rw[jV];omega)) ?_;rw[z5,z5]
 refine wg (zzQ (ofZ (256*w*(256*w))) (ofZ (lim*lim*(s.x*s.x+s.y*s.y))) (by rw[jV];omega) (by rw[jV];omega)) ?_;rw[z5,z5]
 have g:0<(256*w*(256*w)-lim*lim*(s.x*s.x+s.y*s.y)).sign↔lim*lim*(s.x*s.x+s.y*s.y)<256*w*(256*w):=by
  rw[Int.sign_pos_iff];omega
 refine⟨λv=>?_,λv=>?_⟩
 .exact uk (e.trans (Xe (.inr (g.1 v))))
 have go:u1 n m w lim=(⟨y7 (z8 (s.x*(w*w)) (2*(s.x*s.x+s.y*s.y))),y7 (z8 (s.y*(w*w)) (2*(s.x*s.x+s.y*s.y)))⟩,true):=by
  rw[←Yd,←Yd,uL oM,uL oM];exact e.trans (Xc (λk=>k.elim u (λh=>v (g.2 h))))
 (iterate 2 refine wa ?_);refine wg (zig s.x (w*w) (2*(s.x*s.x+s.y*s.y)) ⟨oM,oM⟩ ⟨oM,oM⟩ ⟨oM,oM⟩) ?_;(iterate 2 refine wa ?_);exact wg (zig s.y (w*w) (2*(s.x*s.x+s.y*s.y)) ⟨oM,oM⟩ ⟨oM,oM⟩ ⟨oM,oM⟩)<|uk go
end Go.Gs
