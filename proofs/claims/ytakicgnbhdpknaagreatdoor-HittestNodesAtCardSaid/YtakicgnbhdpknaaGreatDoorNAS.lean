/- The parts of a stroke with four corners, both texts. -/
import Derived.Test.YtakicgnbhdpknaaGreatDoorNAR
set_option maxRecDepth 100000
set_option maxHeartbeats 8000000
set_option linter.all false
namespace Go.Gs
open Proofs.Tryz
open Go.Proofs
def P45(p:Pt):Prop:=(-35184372088832<=p.x/\p.x<=35184372088832)/\(-35184372088832<=p.y/\p.y<=35184372088832)
variable{p:Pt}
def P45.s(h:P45 p):S50 p.x/\S50 p.y:=by unfold P45 at h;omega
def zr.p45(h:zr p):P45 p:=by unfold zr at h;unfold P45;omega
def qX(v:Pt)(w:Int):P45 (z5 v w):=by have:=zaV v w;unfold P45;omega
def zgx(v:Pt)(w:Int):P45 ⟨(z5 v w).y,-(z5 v w).x⟩:=by have:=zaV v w;unfold P45;dsimp only;omega
variable{q:Pt}
def zxC(h:P45 p)(k:P45 q):S50 (zn p q).x/\S50 (zn p q).y:=by
 unfold P45 at h k;show S50 (p.x-q.x)/\S50 (p.y-q.y);omega
def zxD(h:P45 p)(k:P45 q):S50 (zw p q).x/\S50 (zw p q).y:=by
 unfold P45 at h k;show S50 (p.x+q.x)/\S50 (p.y+q.y);omega
def zkg{w:Int}(hw:ki w):(-16384<=z6 w 2/\z6 w 2<=16384)/\y4 (z6 w 2)=z6 w 2:=by
 unfold ki at hw;have:=uV (a:=w) (b:=2) (M:=16384) oM;exact⟨oM,uH oM⟩
def zpU(a b:Pt)(w:Int):CG0 436 [wk a,wk b,i64 w] []
  (.tup [wk (if ki w/\zr a/\zr b then z5 (zn b a) w else zp),pr (ki w/\zr a/\zr b)]) []:=by
 refine zc func436 ?_
 have bad:¬(ki w/\zr a/\zr b)->LE (.tup [wk zp,bl false]) (.tup [wk (if ki w/\zr a/\zr b then z5 (zn b a) w else zp),pr (ki w/\zr a/\zr b)]):=λh=>by
  rw[Xc h];exact zM .refl (zd h)
 refine wg (vN w)<|⟨λa1=>bad (λh=>a1 h.1),λa1=>?_⟩;refine wg (kY a)<|⟨λa2=>bad (λh=>a2 h.2.1),λa2=>?_⟩;refine wg (kY b)<|⟨λa3=>bad (λh=>a3 h.2.2),λa3=>?_⟩;have h:ki w/\zr a/\zr b:=⟨Xa.1 a1,Xa.1 a2,Xa.1 a3⟩;refine wg (zka b a h.2.2.p45.s h.2.1.p45.s)<|wg (zkb (zn b a) w) ?_;rw[Xe h];exact zM .refl (zH h)
def zDn(a b:Pt)(w:Int):CX 379 [wk a,wk b,i64 w] (.sl ptE (jU a b w)):=by
 refine zc func379 ?_
 have bad:¬(ki w/\zr a/\zr b)->LE nS (.sl ptE (jU a b w)):=λh=>by
  unfold jU;rw[Xe h];exact zC
 refine wg (zpU a b w)<|⟨λh=>bad h,λh=>?_⟩;have h:=Xa.1 h;rw[Xe h];refine wd<|wg (zka a (z5 (zn b a) w) h.2.1.p45.s (qX (zn b a) w).s)<|wg (zka b (z5 (zn b a) w) h.2.2.p45.s (qX (zn b a) w).s)<|wg (zfx b (z5 (zn b a) w) h.2.2.p45.s (qX (zn b a) w).s)<|wg (zfx a (z5 (zn b a) w) h.2.1.p45.s (qX (zn b a) w).s)<|⟨Pt,ptE,[zn a (z5 (zn b a) w),zn b (z5 (zn b a) w),zw b (z5 (zn b a) w),zw a (z5 (zn b a) w)],rfl,wb0 ?_⟩
 refine zb.see 3 _ (zbf [zn a (z5 (zn b a) w),zn b (z5 (zn b a) w),zw b (z5 (zn b a) w),zw a (z5 (zn b a) w)] (by show((4:Nat):Int)<=_;decide)) rfl rfl rfl<|wh ?_;unfold jU;rw[Xc (λk=>k h)];exact .refl
def p_cap(a b:Pt)(w:Int):CX 444 [wk a,wk b,i64 w] (.sl ptE (zj5 a b w)):=by
 refine zc func444 ?_
 have bad:¬(ki w/\zr a/\zr b)->LE nS (.sl ptE (zj5 a b w)):=λh=>by
  unfold zj5;rw[Xe h];exact zC
 refine wg (zpU a b w)<|⟨λh=>bad h,λh=>?_⟩;have h:=Xa.1 h;rw[Xe h];have hn:=zaV (zn b a) w;refine wa<|wd<|wg (zka b (z5 (zn b a) w) h.2.2.p45.s (qX (zn b a) w).s)<|wg (zka b (z5 (zn b a) w) h.2.2.p45.s (qX (zn b a) w).s)<|wg (zfx (zn b (z5 (zn b a) w)) ⟨(z5 (zn b a) w).y,-(z5 (zn b a) w).x⟩ (zxC h.2.2.p45 (qX (zn b a) w)) (zgx (zn b a) w).s)<|wg (zfx b (z5 (zn b a) w) h.2.2.p45.s (qX (zn b a) w).s) ?_
 refine wg (zfx (zw b (z5 (zn b a) w)) ⟨(z5 (zn b a) w).y,-(z5 (zn b a) w).x⟩ (zxD h.2.2.p45 (qX (zn b a) w)) (zgx (zn b a) w).s)<|wg (zfx b (z5 (zn b a) w) h.2.2.p45.s (qX (zn b a) w).s)<|⟨Pt,ptE,[zn b (z5 (zn b a) w),zw (zn b (z5 (zn b a) w)) ⟨(z5 (zn b a) w).y,-(z5 (zn b a) w).x⟩,zw (zw b (z5 (zn b a) w)) ⟨(z5 (zn b a) w).y,-(z5 (zn b a) w).x⟩,zw b (z5 (zn b a) w)],rfl,wb0 ?_⟩
 refine zb.see 4 _ (zbf [zn b (z5 (zn b a) w),zw (zn b (z5 (zn b a) w)) ⟨(z5 (zn b a) w).y,-(z5 (zn b a) w).x⟩,zw (zw b (z5 (zn b a) w)) ⟨(z5 (zn b a) w).y,-(z5 (zn b a) w).x⟩,zw b (z5 (zn b a) w)] (by show((4:Nat):Int)<=_;decide)) rfl rfl rfl<|wh ?_;unfold zj5;rw[Xc (λk=>k h)];exact .refl
def zDo(p:Pt)(w:Int):CX 434 [wk p,i64 w] (.sl ptE (zdE p w)):=by
 refine zc func434 ?_
 have bad:¬(ki w/\zr p)->LE nS (.sl ptE (zdE p w)):=λh=>by
  unfold zdE;rw[Xe h];exact zC
 refine wg (vN w)<|⟨λa1=>bad (λh=>a1 h.1),λa1=>?_⟩;refine wg (kY p)<|⟨λa2=>bad (λh=>a2 h.2),λa2=>?_⟩;have h:ki w/\zr p:=⟨Xa.1 a1,Xa.1 a2⟩;have hh:=zkg h.1;have hw:=h.1;have hp:=h.2;unfold ki at hw;unfold zr at hp;refine wg (uT w 2 ⟨oM,oM⟩ ⟨oM,oM⟩) ?_;rw[hh.2];(iterate 8 refine wa ?_)
 refine⟨Pt,ptE,[⟨p.x-z6 w 2,p.y-z6 w 2⟩,⟨p.x+z6 w 2,p.y-z6 w 2⟩,⟨p.x+z6 w 2,p.y+z6 w 2⟩,⟨p.x-z6 w 2,p.y+z6 w 2⟩],rfl,wb0 ?_⟩;refine zb.see 1 _ (zbf [⟨p.x-z6 w 2,p.y-z6 w 2⟩,⟨p.x+z6 w 2,p.y-z6 w 2⟩,⟨p.x+z6 w 2,p.y+z6 w 2⟩,⟨p.x-z6 w 2,p.y+z6 w 2⟩] (by show((4:Nat):Int)<=_;decide)) rfl rfl rfl ?_;unfold zdE;rw[Xc (λk=>k h)];exact .refl
def zxE(a b:Pt)(w:Int):CX 408 [wk a,wk b,i64 w] (.sl ptE (jU a b w)):=by
 refine zc func408<|wg (ztD a b w)<|⟨λh=>?_,λh=>?_⟩
 ·refine⟨Pt,ptE,[],rfl,wb2 ?_⟩;exact zZ (show[]=jU a b w by unfold jU;rw[Xe h])
 have h:ki w/\zr a/\zr b:=Xa.1 h;refine wg (zhy b a h.2.2.p45.s h.2.1.p45.s)<|wg (zgu (zn b a) w)<|wd<|wg (zhy a (z5 (zn b a) w) h.2.1.p45.s (qX (zn b a) w).s)<|wg (zhy b (z5 (zn b a) w) h.2.2.p45.s (qX (zn b a) w).s)<|wg (zfy b (z5 (zn b a) w) h.2.2.p45.s (qX (zn b a) w).s) ?_;refine wg (zfy a (z5 (zn b a) w) h.2.1.p45.s (qX (zn b a) w).s)<|⟨Pt,ptE,[zn a (z5 (zn b a) w),zn b (z5 (zn b a) w),zw b (z5 (zn b a) w),zw a (z5 (zn b a) w)],rfl,wb0 ?_⟩
 refine zb.see 3 _ (zbe [zn a (z5 (zn b a) w),zn b (z5 (zn b a) w),zw b (z5 (zn b a) w),zw a (z5 (zn b a) w)]) rfl rfl rfl<|wh ?_;unfold jU;rw[Xc (λk=>k h)];exact .refl
def r_cap(a b:Pt)(w:Int):CX 412 [wk a,wk b,i64 w] (.sl ptE (zj5 a b w)):=by
 refine zc func412<|wg (ztD a b w)<|⟨λh=>?_,λh=>?_⟩
 ·refine⟨Pt,ptE,[],rfl,wb2 ?_⟩;exact zZ (show[]=zj5 a b w by unfold zj5;rw[Xe h])
 have h:ki w/\zr a/\zr b:=Xa.1 h;refine wg (zhy b a h.2.2.p45.s h.2.1.p45.s)<|wg (zgu (zn b a) w) ?_;have hn:=zaV (zn b a) w;refine wa<|wd<|wg (zhy b (z5 (zn b a) w) h.2.2.p45.s (qX (zn b a) w).s)<|wg (zhy b (z5 (zn b a) w) h.2.2.p45.s (qX (zn b a) w).s)<|wg (zfy (zn b (z5 (zn b a) w)) ⟨(z5 (zn b a) w).y,-(z5 (zn b a) w).x⟩ (zxC h.2.2.p45 (qX (zn b a) w)) (zgx (zn b a) w).s)<|wg (zfy b (z5 (zn b a) w) h.2.2.p45.s (qX (zn b a) w).s) ?_
 refine wg (zfy (zw b (z5 (zn b a) w)) ⟨(z5 (zn b a) w).y,-(z5 (zn b a) w).x⟩ (zxD h.2.2.p45 (qX (zn b a) w)) (zgx (zn b a) w).s)<|wg (zfy b (z5 (zn b a) w) h.2.2.p45.s (qX (zn b a) w).s)<|⟨Pt,ptE,[zn b (z5 (zn b a) w),zw (zn b (z5 (zn b a) w)) ⟨(z5 (zn b a) w).y,-(z5 (zn b a) w).x⟩,zw (zw b (z5 (zn b a) w)) ⟨(z5 (zn b a) w).y,-(z5 (zn b a) w).x⟩,zw b (z5 (zn b a) w)],rfl,wb0 ?_⟩
 refine zb.see 4 _ (zbe [zn b (z5 (zn b a) w),zw (zn b (z5 (zn b a) w)) ⟨(z5 (zn b a) w).y,-(z5 (zn b a) w).x⟩,zw (zw b (z5 (zn b a) w)) ⟨(z5 (zn b a) w).y,-(z5 (zn b a) w).x⟩,zw b (z5 (zn b a) w)]) rfl rfl rfl<|wh ?_;unfold zj5;rw[Xc (λk=>k h)];exact .refl
def zDp(p:Pt)(w:Int):CX 410 [wk p,i64 w] (.sl ptE (zdE p w)):=by
 refine zc func410<|wg (ztD p p w)<|⟨λh=>?_,λh=>?_⟩
 ·refine⟨Pt,ptE,[],rfl,wb2 ?_⟩;exact zZ (show[]=zdE p w by unfold zdE;rw[Xe (λk=>h ⟨k.1,k.2,k.2⟩)])
 have h:ki w/\zr p:=⟨(Xa.1 h).1,(Xa.1 h).2.1⟩;have hh:=zkg h.1;have hw:=h.1;have hp:=h.2;unfold ki at hw;unfold zr at hp;refine wg (ub w 2 ⟨oM,oM⟩ ⟨oM,oM⟩) ?_;rw[hh.2];(iterate 8 refine wa ?_);refine⟨Pt,ptE,[⟨p.x-z6 w 2,p.y-z6 w 2⟩,⟨p.x+z6 w 2,p.y-z6 w 2⟩,⟨p.x+z6 w 2,p.y+z6 w 2⟩,⟨p.x-z6 w 2,p.y+z6 w 2⟩],rfl,wb0 ?_⟩
 refine zb.see 1 _ (zbe [⟨p.x-z6 w 2,p.y-z6 w 2⟩,⟨p.x+z6 w 2,p.y-z6 w 2⟩,⟨p.x+z6 w 2,p.y+z6 w 2⟩,⟨p.x-z6 w 2,p.y+z6 w 2⟩]) rfl rfl rfl ?_;unfold zdE;rw[Xc (λk=>k h)];exact .refl
def wayN(q:Pt):Pt:=⟨-q.y,q.x⟩
def zvd:∀i:Nat,i<12->yb.take (4+i)++[wayN ((yb.take (4+i)).getD i zp)]=yb.take (4+(i+1)):=by decide +kernel
def zn8:∀q∈yb,(-16384<=q.x/\q.x<=16384)/\(-16384<=q.y/\q.y<=16384):=by decide +kernel
def ztI{i:Nat}{x:Pt}(h:(yb.take (4+i))[i]?=some x):x=(yb.take (4+i)).getD i zp:=by
 rw[Xt,h];rfl
def zDq:CX 463 [] (.sl ptE yb):=by
 refine zc func463<|⟨Pt,ptE,yb.take 4,rfl,wb0 ?_⟩;refine⟨Nat,λi=>⟨[(2,i64 i),(1,.own 0)],[(0,.arr 28 ptE 2 (yb.take (4+i)))],1,28,0⟩,λi=>i<=12,λi=>12-i,0,?_,?_,?_⟩
 ·exact Xh _
 ·exact zf [0]
 rintro i h1
 refine⟨λg=>?_,λg=>?_⟩
 ·have g:(i:Int)<12:=g
  have hl:(yb.take (4+i)).length=4+i:=by
   rw[Xo,show yb.length=16 from rfl];omega
  refine wd<|wb<|Ob.mk (by rw[hl];omega) λx hx=>?_;have hx:x=(yb.take (4+i)).getD i zp:=ztI hx;have hb:=zn8 x (XL (i:=4+i) (by rw[hx,Xt,Xb oM];exact KI _));refine wa<|wb<|Ob.mk (by rw[hl];omega) λy hy=>?_;have hy:y=x:=(ztI hy).trans hx.symm;rw[hy];refine⟨Pt,ptE,[wayN x],rfl,wb0 ?_⟩
  refine⟨[wayN x],rfl,Ob.mk ⟨(by show _*(16:Int)<=_;simp only[hl,Xn,Xr];omega),(by simp only[hl,Xn,Xr];omega),dC,λ_ _=>rfl⟩ ?_⟩;exact wh<|wa<|⟨i+1,oM,zu [2] ⟨aR (show yb.take (4+i)++[wayN x]=yb.take (4+(i+1)) by rw[hx];exact zvd i oM),tV⟩,oN⟩
 have e:i=12:=by have g:¬(i:Int)<12:=g;omega
 subst e;exact zZ rfl
def zdM(p:Pt)(w:Int)(q:Pt):Pt:=zw p ⟨z6 (q.x*w) 32768,z6 (q.y*w) 32768⟩
def zes{x w:Int}(hx: -16384<=x/\x<=16384)(hw:ki w):(-268435456<=x*w/\x*w<=268435456)/\(-268435456<=z6 (x*w) 32768/\z6 (x*w) 32768<=268435456)/\y4 (z6 (x*w) 32768)=z6 (x*w) 32768:=by
 unfold ki at hw;have h:=ju (A:=16384) (B:=16384) (a:=x) (b:=w) oM oM;have:=uV (a:=x*w) (b:=32768) (M:=268435456) oM;exact⟨oM,oM,uH oM⟩
def zsa(p:Pt)(w:Int):CX 411 [wk p,i64 w] (.sl ptE (vC p w)):=by
 refine zc func411<|wg (ztD p p w)<|⟨λh=>?_,λh=>?_⟩
 ·refine⟨Pt,ptE,[],rfl,wb2 ?_⟩;exact zZ (show[]=vC p w by unfold vC;rw[Xe (λk=>h ⟨k.1,k.2,k.2⟩)])
 have h:ki w/\zr p:=⟨(Xa.1 h).1,(Xa.1 h).2.1⟩;refine wg zDq<|⟨Pt,ptE,[],rfl,wb2 ?_⟩;refine⟨Nat,λi=>⟨[(7,i64 i),(6,.own 1),(5,.sl ptE yb),(2,.loc 0 0),(1,i64 w)],[(1,.arr 28 ptE 2 ((yb.take i).map (zdM p w))),(0,.box 28 (ptE p))],2,46,0⟩,λi=>i<=16,λi=>16-i,0,?_,?_,?_⟩
 ·exact Xh _
 ·exact zf [0,1]
 rintro i h1
 intro hl2;have hL:yb.length=16:=rfl;refine⟨λg=>?_,λg=>?_⟩
 ·have g:(i:Int)<(yb.length:Int):=g
  have hl:((yb.take i).map (zdM p w)).length=i:=by
   rw[Xx,Xo];omega
  refine wd<|wb λx(hx:yb[i]?=some x)=>?_;have hb:=zn8 x (Xf hx);have t1:=zes hb.1 h.1;have t2:=zes hb.2 h.1;refine wa<|wg (ub (x.x*w) 32768 ⟨oM,oM⟩ ⟨dC,dC⟩) ?_;rw[t1.2.2];refine wb λy hy=>?_;have hy:y=x:=Xm ((show yb[i]?=some y from hy).symm.trans hx);rw[hy];refine wa<|wg (ub (x.y*w) 32768 ⟨oM,oM⟩ ⟨dC,dC⟩) ?_;rw[t2.2.2];refine wg (zfy p ⟨z6 (x.x*w) 32768,z6 (x.y*w) 32768⟩ h.2.p45.s ⟨oN,oN⟩) ?_
  refine⟨Pt,ptE,[zdM p w x],rfl,wb0 ?_⟩;refine⟨[zdM p w x],rfl,Ob.mk ⟨(by show _*(16:Int)<=_;simp only[hl,Xn,Xr];omega),(by simp only[hl,Xn,Xr];omega),dC,λ_ _=>rfl⟩ ?_⟩;exact wh<|wa<|⟨i+1,oM,zu [0,3] ⟨aR (by rw[Xl,hx,XA];rfl),rfl,tV⟩,oN⟩
 have e:i=16:=by have g:¬(i:Int)<(yb.length:Int):=g;omega
 subst e;refine zb.see 1 _ (zbe (yb.map (zdM p w))) rfl rfl rfl<|zZ (show kE (yb.map (zdM p w))=vC p w from ?_);unfold vC;rw[Xc (λk=>k h)];rfl
def ze6(p:Pt):Prop:=(-2097152<=p.x/\p.x<=2097152)/\(-2097152<=p.y/\p.y<=2097152)
def zb5(hp:zr p)(hq:zr q):ze6 (zn p q):=by
 unfold zr at hp hq;show(-2097152<=p.x-q.x/\p.x-q.x<=2097152)/\(-2097152<=p.y-q.y/\p.y-q.y<=2097152);omega
def zkh(hp:ze6 p)(hq:ze6 q):(-4398046511104<=p.x*q.y/\p.x*q.y<=4398046511104)/\(-4398046511104<=p.y*q.x/\p.y*q.x<=4398046511104):=by
 have h1:=ju hp.1 hq.2;have h2:=ju hp.2 hq.1;omega
def zpV(p q:Pt)(hp:ze6 p)(hq:ze6 q):CX 323 [wk p,wk q] (i64 (wdg p q)):=by
 have h:=zkh hp hq;refine zc func323 ?_;(iterate 3 refine wa ?_);exact .refl
def ztJ(w:Int):CX 477 [i64 w] (pr (ki w)):=by
 refine zc func477<|Br.mk (λh=>?_) (λh=>zd (λk=>h k.1));exact zE ⟨λk=>⟨h,k⟩,λk=>k.2⟩
def ztK(w:Int):CX 485 [i64 w] (pr (ki w)):=by
 refine zc func485<|Br.mk (λh=>?_) (λh=>zd (λk=>h k.1));exact zE ⟨λk=>⟨h,k⟩,λk=>k.2⟩
def zxF(a b:Pt)(ha:S50 a.x/\S50 a.y)(hb:S50 b.x/\S50 b.y):CX 478 [wk a,wk b] (wk (zn b a)):=by
 refine zc func478 ?_;(iterate 2 refine wa ?_);exact .refl
def zve(n:Pt):zn zp n=zhu n:=by
 unfold zn zhu zp;dsimp only;rw[Int.zero_sub,Int.zero_sub]
def zCr(n:Pt)(h:S50 n.x/\S50 n.y):CX 478 [wk n,wk zp] (wk (zhu n)):=by
 have c:=zxF n zp h ⟨dC,dC⟩
 rwa [zve]at c
def zki(hp:zr p)(hq:zr q):zad p q=zn p q:=by
 unfold zad;rw[zen hp,zen hq]
def outE(o:Pt×Pt×Bool):SV:=.tup [wk o.1,wk o.2.1,pr (o.2.2=true)]
def vp{o:Pt×Pt×Bool}{n m:Pt}{b:Bool}(h:o=(n,m,b)):LE (.tup [wk n,wk m,bl b]) (outE o):=by
 subst h;exact zbO (.C (.C (.cons ztr .nil)))
def zAF(a v b:Pt)(w:Int):CX 441 [wk a,wk v,wk b,i64 w] (outE (qp a v b w)):=by
 refine zc func441 ?_;have bad:¬(zr a/\zr v/\zr b/\ki w)->qp a v b w=(zp,zp,false):=λh=>by unfold qp;rw[Xe h]
 refine wg (kY a)<|⟨λa1=>vp (bad (λh=>a1 h.1)),λa1=>?_⟩;refine wg (kY v)<|⟨λa2=>vp (bad (λh=>a2 h.2.1)),λa2=>?_⟩;refine wg (kY b)<|⟨λa3=>vp (bad (λh=>a3 h.2.2.1)),λa3=>?_⟩;refine wg (ztJ w)<|⟨λa4=>vp (bad (λh=>a4 h.2.2.2)),λa4=>?_⟩;have ha:=Xa.1 a1;have hv:=Xa.1 a2;have hb:=Xa.1 a3;have hw:=Xa.1 a4;have hx:=zb5 hv ha;have hy:=zb5 hb hv
 have e:qp a v b w=if wdg (zn v a) (zn b v)=0 then(zp,zp,false) else if 0<wdg (zn v a) (zn b v) then(zhu (z5 (zn v a) w),zhu (z5 (zn b v) w),true) else(z5 (zn v a) w,z5 (zn b v) w,true):=by
  unfold qp;rw[Xc (λk=>k ⟨ha,hv,hb,hw⟩)]
 have hd:=zkh hx hy;refine wc<|wg (zxF a v ha.p45.s hv.p45.s)<|wg (zxF v b hv.p45.s hb.p45.s)<|wc<|wg (zkb (zn v a) w)<|wg (zkb (zn b v) w) ?_;(iterate 3 refine wa ?_);refine⟨λk:wdg (zn v a) (zn b v)=0=>?_,λk:¬wdg (zn v a) (zn b v)=0=>?_⟩
 ·exact vp (e.trans (Xe k))
 refine⟨λk2:0<wdg (zn v a) (zn b v)=>?_,λk2:¬0<wdg (zn v a) (zn b v)=>?_⟩
 ·exact wc<|wg (zCr (z5 (zn v a) w) (qX _ _).s)<|wg (zCr (z5 (zn b v) w) (qX _ _).s)<|vp (e.trans ((Xc k).trans (Xe k2)))
 exact wd<|wh<|vp (e.trans ((Xc k).trans (Xc k2)))
def zAG(a v b:Pt)(w:Int):CX 460 [wk a,wk v,wk b,i64 w] (outE (qp a v b w)):=by
 refine zc func460 ?_;have bad:¬(zr a/\zr v/\zr b/\ki w)->qp a v b w=(zp,zp,false):=λh=>by unfold qp;rw[Xe h]
 refine wg (z9 a)<|⟨λa1=>vp (bad (λh=>a1 h.1)),λa1=>?_⟩;refine wg (z9 v)<|⟨λa2=>vp (bad (λh=>a2 h.2.1)),λa2=>?_⟩;refine wg (z9 b)<|⟨λa3=>vp (bad (λh=>a3 h.2.2.1)),λa3=>?_⟩;refine wg (ztK w)<|⟨λa4=>vp (bad (λh=>a4 h.2.2.2)),λa4=>?_⟩;have ha:=Xa.1 a1;have hv:=Xa.1 a2;have hb:=Xa.1 a3;have hw:=Xa.1 a4;have hx:=zb5 hv ha;have hy:=zb5 hb hv
 have e:qp a v b w=if wdg (zn v a) (zn b v)=0 then(zp,zp,false) else if 0<wdg (zn v a) (zn b v) then(zhu (z5 (zn v a) w),zhu (z5 (zn b v) w),true) else(z5 (zn v a) w,z5 (zn b v) w,true):=by
  unfold qp;rw[Xc (λk=>k ⟨ha,hv,hb,hw⟩)]
 have c1:=zmj v a;rw[zki hv ha]at c1;have c2:=zmj b v;rw[zki hb hv]at c2;have n1:=zaV (zn v a) w;have n2:=zaV (zn b v) w;refine wc<|wg c1<|wg c2<|wc<|wg (zgu (zn v a) w)<|wg (zgu (zn b v) w) ?_;refine wg (zpV (zn v a) (zn b v) hx hy)<|⟨λk=>?_,λk=>?_⟩
 ·exact vp (e.trans (Xe k))
 refine⟨λk2=>?_,λk2=>?_⟩
 ·refine wd ?_;(iterate 4 refine wa ?_);exact wh<|wd<|wh<|vp (n:=zhu (z5 (zn v a) w)) (m:=zhu (z5 (zn b v) w)) (e.trans ((Xc k).trans (Xe k2)))
 exact wd<|wh<|vp (e.trans ((Xc k).trans (Xc k2)))
def zgy(a b:Pt):ze6 (zad a b):=zb5 (jo _) (jo _)
def zxG(p q:Pt)(hp:ze6 p)(hq:ze6 q):CX 167 [wk p,wk q] (i64 (wdg p q)):=by
 have h:=zkh hp hq;refine zc func167 ?_;(iterate 3 refine wa ?_);exact .refl
def zxH(a b p:Pt):CX 114 [wk a,wk b,wk p] (i64 (sgn (orP a b p))):=by
 refine zc func114<|wc<|wg (zxo b a)<|wg (zxo p a)<|wg (zxG (zad b a) (zad p a) (zgy _ _) (zgy _ _))<|wg (znW (orP a b p) (-1) 1) ?_;exact ze (zu7 _)
def zDr(n:Int):CX 322 [i64 n] (i64 (sgn n)):=by
 refine zc func322<|Br.mk (λh=>ze (by unfold sgn;rw[Xe h])) (λh=>?_);refine⟨λk=>ze (by unfold sgn;rw[Xc h,Xe k]),λk=>ze (by unfold sgn;rw[Xc h,Xc k])⟩
def zn9(a b p:Pt):CX 257 [wk a,wk b,wk p] (i64 (sgn (orP a b p))):=by
 refine zc func257<|wc<|wg (zmj b a)<|wg (zmj p a)<|wg (zpV (zad b a) (zad p a) (zgy _ _) (zgy _ _))<|wg (zDr (orP a b p)) ?_;exact .refl
def zgz{n:Int}:0<sgn n↔0<n:=by unfold sgn;split <;> (try split) <;> omega
variable{a:Pt}{b:Pt}
def ztL(h1:a.y<=p.y)(h2:p.y<b.y)(h3:0<sgn (orP a b p)):zag a b p=1:=Xe ⟨h1,h2,zgz.1 h3⟩
def zi0(h0:¬(a.y<=p.y/\p.y<b.y/\0<sgn (orP a b p)))(h1:b.y<=p.y)(h2:p.y<a.y)(h3:0<sgn (orP b a p)):zag a b p= -1:=by
 unfold zag;rw[Xc (λh=>h0 ⟨h.1,h.2.1,zgz.2 h.2.2⟩),Xe ⟨h1,h2,zgz.1 h3⟩]
def ztM(h0:¬(a.y<=p.y/\p.y<b.y/\0<sgn (orP a b p)))(h1:¬(b.y<=p.y/\p.y<a.y/\0<sgn (orP b a p))):zag a b p=0:=by
 unfold zag;rw[Xc (λh=>h0 ⟨h.1,h.2.1,zgz.2 h.2.2⟩),Xc (λh=>h1 ⟨h.1,h.2.1,zgz.2 h.2.2⟩)]
def zDs(a b p:Pt):CX 179 [wk a,wk b,wk p] (i64 (zag a b p)):=by
 refine zc func179 ?_;have sec:¬(a.y<=p.y/\p.y<b.y/\0<sgn (orP a b p))->¬(b.y<=p.y/\p.y<a.y/\0<sgn (orP b a p))->LE (i64 0) (i64 (zag a b p)):=λh k=>ze (ztM h k).symm
 refine⟨λh1=>?_,λh1=>?_⟩
 ·refine⟨λh2=>?_,λh2=>?_⟩
  ·refine wg (zn9 a b p)<|⟨λh3=>ze (ztL h1 h2 h3).symm,λh3=>?_⟩;have h0:¬(a.y<=p.y/\p.y<b.y/\0<sgn (orP a b p)):=λh=>h3 h.2.2
   refine⟨λk1=>?_,λk1=>sec h0 λh=>k1 h.1⟩;refine⟨λk2=>?_,λk2=>sec h0 λh=>k2 h.2.1⟩;exact wg (zn9 b a p)<|⟨λk3=>ze (zi0 h0 k1 k2 k3).symm,λk3=>sec h0 λh=>k3 h.2.2⟩
  have h0:¬(a.y<=p.y/\p.y<b.y/\0<sgn (orP a b p)):=λh=>h2 h.2.1
  refine⟨λk1=>?_,λk1=>sec h0 λh=>k1 h.1⟩;refine⟨λk2=>?_,λk2=>sec h0 λh=>k2 h.2.1⟩;exact wg (zn9 b a p)<|⟨λk3=>ze (zi0 h0 k1 k2 k3).symm,λk3=>sec h0 λh=>k3 h.2.2⟩
 have h0:¬(a.y<=p.y/\p.y<b.y/\0<sgn (orP a b p)):=λh=>h1 h.1
 refine⟨λk1=>?_,λk1=>sec h0 λh=>k1 h.1⟩;refine⟨λk2=>?_,λk2=>sec h0 λh=>k2 h.2.1⟩;exact wg (zn9 b a p)<|⟨λk3=>ze (zi0 h0 k1 k2 k3).symm,λk3=>sec h0 λh=>k3 h.2.2⟩
def wcell(i k j:Nat):Pt:=if j%4<i∨(j%4=i/\j/4<k) then yb.getD j zp else zp
def zhB(i k:Nat):LR:=(List.range 16).flatMap λj=>ptE (wcell i k j)
def zDt:CX 473 [] (.agg (zhB 4 0)):=by
 refine zc func473<|⟨Nat,λi=>⟨[(10,i64 i),(9,.agg [i64 16384,i64 0,i64 15137,i64 6270,i64 11585,i64 11585,i64 6270,i64 15137]),(1,.loc 1 0),(0,.loc 0 0)],[(1,.box 405 (zhB i 0)),(0,.box 405 (zhB 0 0))],2,28,0⟩,λi=>i<=4,λi=>4-i,0,?_,?_,?_⟩
 ·exact Xh _
 ·exact zf [0,1]
 rintro i hi
 rcases Qe i 4 with c|c
 ·obtain⟨j,e⟩:∃j,j=i:=⟨_,rfl⟩;obtain⟨n,hn⟩:∃n,i+1=n:=⟨_,rfl⟩;obtain rfl|rfl|rfl|rfl:i=0∨i=1∨i=2∨i=3:=oM
  all_goals
   refine we<|⟨Nat,λk=>⟨[(14,i64 k),(3,.loc 2 0),(2,i64 j),(10,i64 j),(9,.agg [i64 16384,i64 0,i64 15137,i64 6270,i64 11585,i64 11585,i64 6270,i64 15137]),(1,.loc 1 0),(0,.loc 0 0)],[(2,.box 28 (ptE (yb.getD ((4*k+j)%16) zp))),(1,.box 405 (zhB j k)),(0,.box 405 (zhB 0 0))],3,28,0⟩,λk=>k<=4,λk=>4-k,0,Xh _,?_,?_⟩
   ·subst e;exact zf [0,1,2]
   intro k hk
   rcases Qe k 4 with d|d
   ·have q:=zDg (yb.getD (4*k+j) zp);obtain⟨m,hm⟩:∃m,k+1=m:=⟨_,rfl⟩;obtain rfl|rfl|rfl|rfl:k=0∨k=1∨k=2∨k=3:=oM
    all_goals
     subst e;refine we<|Ar.fit dC<|Ar.fit dC<|wg q<|Ar.fit dC<|⟨m,oM,?_,oN⟩;subst hm;exact zf [0,1,2]
   obtain rfl:k=4:=by omega
   subst e;refine⟨λh=>absurd h dC,λ_=>?_⟩;refine Ar.fit dC<|⟨n,oM,?_,oN⟩;subst hn;exact zf [0,1]
 obtain rfl:i=4:=by omega
 refine⟨λh=>absurd h dC,λ_=>?_⟩;exact .refl
def zsb(p:Pt)(w:Int):CX 435 [wk p,i64 w] (.sl ptE (vC p w)):=by
 refine zc func435 ?_
 have bad:¬(ki w/\zr p)->LE nS (.sl ptE (vC p w)):=λh=>by
  unfold vC;rw[Xe h];exact zC
 refine wg (vN w)<|⟨λa1=>bad (λh=>a1 h.1),λa1=>?_⟩;refine wg (kY p)<|⟨λa2=>bad (λh=>a2 h.2),λa2=>?_⟩;have h:ki w/\zr p:=⟨Xa.1 a1,Xa.1 a2⟩;refine wg zDt<|⟨Nat,λi=>⟨[(17,i64 i),(16,.agg (zhB 4 0)),(5,.own 1),(2,.loc 0 0),(1,i64 w)],[(1,.arr 28 ptE 2 ((yb.take i).map (zdM p w))),(0,.box 28 (ptE p))],2,39,0⟩,λi=>i<=16,λi=>16-i,0,?_,?_,?_⟩
 ·exact Xh _
 ·exact zB [(0,some 0),(1,none)]
 rintro i hi
 rcases Qe i 16 with c|c
 ·have hb:=zn8 (yb.getD i zp) (by rw[Xt,Xb (show i<yb.length from c)];exact KI _);have t1:=zes hb.1 h.1;have t2:=zes hb.2 h.1;have f1: -9223372036854775808<=(yb.getD i zp).x*w/\(yb.getD i zp).x*w<=9223372036854775807:=oM;have f2: -9223372036854775808<=(yb.getD i zp).y*w/\(yb.getD i zp).y*w<=9223372036854775807:=oM;have d1:=uT ((yb.getD i zp).x*w) 32768 ⟨oM,oM⟩ ⟨dC,dC⟩;have d2:=uT ((yb.getD i zp).y*w) 32768 ⟨oM,oM⟩ ⟨dC,dC⟩;rw[t1.2.2]at d1;rw[t2.2.2]at d2
  obtain⟨L,hL⟩:∃L,zdM p w (yb.getD i zp)=L:=⟨_,rfl⟩;have d3:=zfx p ⟨z6 ((yb.getD i zp).x*w) 32768,z6 ((yb.getD i zp).y*w) 32768⟩ h.2.p45.s ⟨oN,oN⟩;rw[show zw p _=L from hL]at d3;have n1:((yb.take i).map (zdM p w)).length<=16:=by rw[Xx,Xo];omega
  obtain⟨k,hk⟩:∃k,i+1=k:=⟨_,rfl⟩;clear hi hb t1 t2;obtain rfl|rfl|rfl|rfl|rfl|rfl|rfl|rfl|rfl|rfl|rfl|rfl|rfl|rfl|rfl|rfl:i=0∨i=1∨i=2∨i=3∨i=4∨i=5∨i=6∨i=7∨i=8∨i=9∨i=10∨i=11∨i=12∨i=13∨i=14∨i=15:=oM
  all_goals
   refine we<|wd<|Ar.fit f1<|wg d1<|Ar.fit f2<|wg d2 ?_;refine wg d3<|⟨Pt,ptE,[L],rfl,wb0 ?_⟩;refine⟨[L],rfl,Ob.mk ⟨by simp only[Xn,Xr];omega,by simp only[Xn,Xr];omega,dC,λ_ _=>rfl⟩ ?_⟩;refine wh<|Ar.fit dC<|⟨k,oM,?_,oN⟩;subst hk hL;exact zf [0,4]
 obtain rfl:i=16:=by omega
 refine⟨λh=>absurd h dC,λ_=>?_⟩;refine zb.see 1 _ (zbf (yb.map (zdM p w)) (by show((16:Nat):Int)<=_;decide)) rfl rfl rfl<|zZ (show kE (yb.map (zdM p w))=vC p w from ?_);unfold vC;rw[Xc (λk=>k h)];rfl
def zet(p q:Pt)(hp:S50 p.x/\S50 p.y)(hq:S50 q.x/\S50 q.y):CX 442 [wk p,wk q] (wk (zw p q)):=by
 refine zc func442 ?_;(iterate 2 refine wa ?_);exact .refl
def zoa(r:LU):CX 440 [.sl ptE r] (.sl zk (kM r)):=by
 refine zc func440 λhl1=>?_;refine⟨λh=>?_,λh=>?_⟩
 ·have e:kM r=[]:=by unfold kM;rw[Xe (Xp (by have h:(r.length:Int)=0:=h;omega))]
  rw[e];exact zC
 refine⟨LU,zk,[r],rfl,wb0 ?_⟩;refine zZ (show[r]=kM r from ?_);unfold kM;rw[Xc (λe=>h (by rw[e];rfl))]
def zob(a:LB)(ha:a.length<=1000000000):CX 417 [.sl dgE a] (.full dgE (zm (val a))):=by
 refine zc func417 λhl0=>?_;refine⟨Nat,λn=>⟨[(3,i64 n),(0,.sl dgE a)],[],0,22,0⟩,λn=>n<=a.length/\∀i,n<=i->dig a i=0,λn=>n,a.length,?_,?_,?_⟩
 ·exact⟨Xk _,λi h=>zaL h⟩
 ·exact zB []
 rintro n ⟨h1,h2⟩
 have post:(n=0∨dig a (n-1)≠0)->((a.drop (0:Int).toNat).take ((n:Int)-0).toNat)=zm (val a):=λh3=>by
  rw[←zjX h3 h1 h2];simp
 refine⟨λh3=>?_,λh3=>?_⟩
 ·refine wa<|wb λx hx=>?_;rw[show((n:Int)-1).toNat=n-1 by omega]at hx;have dx:=zV hx;refine⟨λh4=>?_,λh4=>?_⟩
  ·refine wa<|⟨n-1,⟨oM,λi hi=>?_⟩,ji [] ⟨iR oM,rfl,tV⟩ trivial,oN⟩
   by_cases e:i=n-1
   ·subst e;rw[dx];omega
   exact h2 i oM
  refine zwI.full (Ob.mk ⟨⟨oM,oM,rfl,oM⟩,λ_ _=>rfl⟩ ?_);exact zts (post (.inr oM))
 refine zwI.full (Ob.mk ⟨⟨oM,oM,rfl,oM⟩,λ_ _=>rfl⟩ ?_);exact zts (post (.inl oM))
def jv(a:LB)(ha:a.length<=1000000000):CX 417 [.sl dgE a] (.sl dgE (zm (val a))):=(zob a ha).le (zcC rfl)
def zoc(q:LB)(hq:q.length<=1000000000):CX 195 [.sl dgE q] (.sl dgE q):=by
 refine zc func195 ?_
 by_cases h0:q=[]
 ·refine zeQ.any (Br.mk ?_ ?_)
  ·subst h0;exact zC
  refine⟨Dig,dgE,[],rfl,Ob.mk ze5 ?_⟩;refine⟨q,rfl,Ob.mk (zhr (by simp only[Xr];omega)) ?_⟩;exact zZ rfl
 refine zeQ.some (λh=>h0 (Xp h))<|⟨Dig,dgE,[],rfl,Ob.mk ze5 ?_⟩;refine⟨q,rfl,Ob.mk (zhr (by simp only[Xr];omega)) ?_⟩;exact zZ rfl
def zah(a:LB)(ha:a.length<=1000000000):CX 360 [.sl dgE a] (.sl dgE (zm (val a))):=by
 exact zc func360<|wg (jv a ha)<|wg (zoc _ (by have:=zJ a;omega))<|.refl
def zeu(n:Nat)(hn:n<18446744073709551616):CX 387 [u64 n] (.sl dgE (zm n)):=by
 refine zc func387<|Ar.wrap<|wb1<|Ar.wrap<|⟨Dig,dgE,[dof n,dof (n/4294967296)],congr (Xg (λn m=>[u32 n,u32 m]) (zbc rfl)) (zbc (by simp only[Int.reducePow];omega)),Ob.mk (dTwo _ _) ?_⟩;refine zb.see 0 _ (zah [dof n,dof (n/4294967296)] sI) rfl rfl rfl ?_;rw[zn1 _ hn];exact .refl
def zev(a:LB)(i:Int)(hi:0<=i):CX 470 [.sl dgE a,i64 i] (u64 (dig a i.toNat)):=by
 refine zc func470 λhl=>?_;refine⟨λh=>?_,λh=>?_⟩
 ·refine wb λx hx=>?_;have:=x.isLt;exact wa<|ze (by rw[zV hx])
 exact ze (by rw[zaL oM];rfl)
def zkj{A B:Nat}(h:(zm A).length<(zm B).length):A<B:=by
 have h1:=zcD (n:=A) (Xk _);have h2:=znY (n:=B) (λe=>by rw[e,jZ]at h;simp at h);exact Xw h1 (XB (XH dC oM) h2)
def zCs(a b:LB)(ha:a.length<=1000000000)(hb:b.length<=1000000000):
  CX 464 [.sl dgE a,.sl dgE b] (i64 (zgj (val a) (val b))):=by
 refine zc func464<|wg (jv a ha)<|wg (jv b hb) ?_;have la:=zJ a;have lb:=zJ b;generalize val a=A at*;generalize val b=B at*;intro hl1 hl2;refine⟨λh3=>?_,λh3=>?_⟩
 ·intro hl4 hl5;refine⟨λh6=>?_,λh6=>?_⟩
  ·have:=zkj (A:=A) (B:=B) oM;exact ze (by rw[zgj,Xe this])
  have:=zkj (A:=B) (B:=A) oM;exact ze (by rw[zgj,Xc oM,Xe this])
 have h3:(zm A).length=(zm B).length:=oM;intro hl7;refine wa<|⟨Nat,λj=>⟨[(5,i64 ((j:Int)-1)),(0,.sl dgE (zm A)),(1,.sl dgE (zm B))],[],0,45,0⟩,λj=>j<=(zm A).length/\∀i,j<=i->dig (zm A) i=dig (zm B) i,λj=>j,(zm A).length,?_,?_,?_⟩
 ·exact⟨oM,λi hi=>by rw[zaL oM,zaL oM]⟩
 ·exact zB []
 rintro j ⟨h1,h2⟩
 refine⟨λh8=>?_,λh8=>?_⟩
 ·have h2':∀i,j-1+1<=i->dig (zm A) i=dig (zm B) i:=λi hi=>h2 i oM
  refine wc<|wb λx hx=>?_;rw[show((j:Int)-1).toNat=j-1 by omega]at hx;have dx:=zV hx;refine wb λy hy=>?_;rw[show((j:Int)-1).toNat=j-1 by omega]at hy;have dy:=zV hy;refine⟨λh4=>?_,λh4=>?_⟩
  ·have:=zgk h2' oM;rw[zo,zo]at this;exact ze (by rw[zgj,Xe this])
  refine wc<|wb λx' hx'=>?_;rw[show((j:Int)-1).toNat=j-1 by omega,hx]at hx'
  cases hx'
  refine wb λy' hy'=>?_;rw[show((j:Int)-1).toNat=j-1 by omega,hy]at hy'
  cases hy'
  refine⟨λh5=>?_,λh5=>?_⟩
  ·have:=zgk (λi hi=>(h2' i hi).symm) oM;rw[zo,zo]at this;exact ze (by rw[zgj,Xc oM,Xe this])
  refine wa<|⟨j-1,⟨oM,λi hi=>?_⟩,ji [] ⟨iR oM,rfl,rfl,tV⟩ trivial,oN⟩
  by_cases hij:i=j-1
  ·subst hij;omega
  exact h2 i oM
 have hj:j=0:=by omega
 subst hj;have:=zmh λi=>h2 i (Xh _)
 rw[zo,zo]at this;exact ze (by rw[zgj,Xc oM,Xc oM])
def zCt(a b:LB)(ha:a.length<=900000000)(hb:b.length<=900000000):
  CX 419 [.sl dgE a,.sl dgE b] (.sl dgE (zm (val a+val b))):=by
 refine zc func419 λhl1 hl2=>Ar.fit (by simp only[zcr];omega) ?_;have en:zcr (a.length:Int) [(b.length:Int)]+1=((max a.length b.length+1:Nat):Int):=by simp only[zcr];omega
 change ∃_,_;rw[en];generalize hn:max a.length b.length+1=n at*;refine⟨Dig,dgE,0,rfl,wb7 ?_⟩;intro hl3
 refine⟨Nat×LB×Nat,λ⟨i,out,c⟩=>⟨[(17,i64 i),(16,i64 n),(6,u64 c),(5,.own 0),(0,.sl dgE a),(1,.sl dgE b)],[(0,qr out)],1,39,0⟩,
  λq=>q.1<=n/\q.2.1.length=n/\q.2.2<=1/\(∀j,q.1<=j->dig q.2.1 j=0)/\val q.2.1+4294967296^q.1*q.2.2=val (a.take q.1)+val (b.take q.1),λq=>n-q.1,(0,List.replicate n 0,0),?_,?_,?_⟩
 ·exact⟨Xh _,sI,Xh _,λj _=>yN _ _,by simp[zaT,val]⟩
 ·exact zS [0] ⟨rfl,iR sI,rfl,rfl,rfl,rfl,tV⟩ ⟨rfl,tV⟩
 rintro⟨i,out,c⟩ ⟨h1,h2,h3,h4,h5⟩
 dsimp only at h1 h2 h3 h4 h5;refine⟨λh6=>?_,λh6=>?_⟩
 ·have d1:=yS a i;have d2:=yS b i;refine wg (zev a _ oM)<|wg (zev b _ oM) ?_;simp only[XT];(iterate 2 refine wa ?_);refine Ar.wrap<|wb<|wb λz hz=>?_;refine⟨dof (dig a i+dig b i+c),Xg (λn=>[u32 n]) (zbc oM),?_⟩;refine wb1<|wa ?_
  refine⟨(i+1,out.set i (dof (dig a i+dig b i+c)),(dig a i+dig b i+c)/4294967296),⟨oN,by simp[h2],oN,λj hj=>?_,?_⟩,
   zS [0] ⟨rfl,rfl,Xg (λn=>some (u64 n)) (by simp only[Int.reducePow];omega),rfl,rfl,rfl,tV⟩ ⟨rfl,tV⟩,oN⟩
  ·dsimp only at hj ⊢;rw[jR,Xc oM];exact h4 j oM
  dsimp only;have hs:=v6 out i (dof (dig a i+dig b i+c)) oM;rw[h4 i (Xk _),ky,Ko,XP]at hs;rw[hs,zR,zR,XU];have e:=X8 (dig a i+dig b i+c) 4294967296;generalize (dig a i+dig b i+c)/4294967296=x at*;generalize (dig a i+dig b i+c)%4294967296=y at*;generalize 4294967296^i=p at*;clear hs h4
  grind
 have hi:i=n:=by omega
 subst hi;rw[kT oM,kT oM]at h5
 have hc:c=0:=by
  have l1:=Xw (q9 a) (XH (show 0<4294967296 by decide) (show a.length<=i-1 by omega));have l2:=Xw (q9 b) (XH (show 0<4294967296 by decide) (show b.length<=i-1 by omega));have e:4294967296^i=4294967296^(i-1)*4294967296:=by rw[←XU];congr 1;omega
  have:c=0∨c=1:=oM
  rcases this with h|h
  ·exact h
  subst h;omega
 subst hc;refine zb.see 0 _ (jv out oM) rfl rfl rfl ?_;rw[show val out=val a+val b by omega];exact .refl
def zCu(a b:LB)(ha:a.length<=900000000)(hb:b.length<=900000000):
  CX 423 [.sl dgE a,.sl dgE b] (.tup [.sl dgE (zm (val a-val b)),pr (val b<=val a)]):=by
 refine zc func423<|wg (zCs a b oM oM)<|⟨λh=>?_,λh=>?_⟩
 ·have hlt:=zel.1 h;refine zM ?_ (zd oM);rw[Yp oM,jZ];exact zC
 have hle:val b<=val a:=QY λh'=>h (zel.2 h')
 refine wg (jv a oM) ?_;have la:=zJ a;have ldef:=zcD (n:=val a) (Xk _);intro hl2;generalize hn:(zm (val a)).length=n at*;refine⟨Dig,dgE,0,rfl,wb7 ?_⟩;intro hl3
 refine⟨Nat×LB×Nat,λ⟨i,out,c⟩=>⟨[(20,i64 i),(19,i64 n),(7,u64 c),(6,.own 0),(0,.sl dgE a),(1,.sl dgE b)],[(0,qr out)],1,42,0⟩,
  λq=>q.1<=n/\q.2.1.length=n/\q.2.2<=1/\(∀j,q.1<=j->dig q.2.1 j=0)/\val q.2.1+val (b.take q.1)=val (a.take q.1)+4294967296^q.1*q.2.2,λq=>n-q.1,(0,List.replicate n 0,0),?_,?_,?_⟩
 ·exact⟨Xh _,sI,Xh _,λj _=>yN _ _,by simp[zaT,val]⟩
 ·exact zS [0] ⟨rfl,iR sI,rfl,rfl,rfl,rfl,tV⟩ ⟨rfl,tV⟩
 rintro⟨i,out,c⟩ ⟨h1,h2,h3,h4,h5⟩
 dsimp only at h1 h2 h3 h4 h5;refine⟨λh6=>?_,λh6=>?_⟩
 ·have d1:=yS a i;have d2:=yS b i;refine wg (zev a _ oM)<|wg (zev b _ oM) ?_;simp only[XT];refine Ar.wrap<|Ar.wrap<|Ar.wrap<|wb<|wb λz hz=>?_;refine⟨dof (4294967296+dig a i-dig b i-c),Xg (λn=>[u32 n]) (by rw[zjZ,yl,yl,ky];omega),?_⟩;refine wb1<|wa ?_
  refine⟨(i+1,out.set i (dof (4294967296+dig a i-dig b i-c)),1-(4294967296+dig a i-dig b i-c)/4294967296),⟨oN,by simp[h2],oN,λj hj=>?_,?_⟩,
   zS [0] ⟨rfl,rfl,Xg (λn=>some (u64 n)) (by rw[yl,yl];simp only[Int.reducePow];omega),rfl,rfl,rfl,tV⟩ ⟨rfl,tV⟩,oN⟩
  ·dsimp only at hj ⊢;rw[jR,Xc oM];exact h4 j oM
  dsimp only;have hs:=v6 out i (dof (4294967296+dig a i-dig b i-c)) oM;rw[h4 i (Xk _),ky,Ko,XP]at hs;rw[hs,zR,zR,XU];have e:(4294967296+dig a i-dig b i-c)%4294967296+dig b i+c=dig a i+4294967296*(1-(4294967296+dig a i-dig b i-c)/4294967296):=oM;generalize 1-(4294967296+dig a i-dig b i-c)/4294967296=x at*;generalize (4294967296+dig a i-dig b i-c)%4294967296=y at*;generalize 4294967296^i=p at*
  have e2:p*y+p*dig b i+p*c=p*dig a i+p*4294967296*x:=by
   rw[←KE,←KE,e,KE,KC]
  omega
 have hi:i=n:=by omega
 subst hi;have ea:val (a.take i)=val a:=by rw[zpC,Xy ldef]
 have eb:val (b.take i)=val b:=by rw[zpC,Xy (K4 hle ldef)]
 rw[ea,eb]at h5;have e4:=q9 out;rw[h2]at e4
 have e:val out=val a-val b:=by
  have:c=0∨c=1:=oM
  rcases this with rfl|rfl <;> omega
 refine zb.see 0 _ (jv out oM) rfl rfl rfl ?_;rw[e];exact zM .refl (zH hle)
def zpW(xs:LB)(n:Nat)(h:xs.length=n+2):∃r,r<4294967296^n/\val xs=(dig xs (n+1)*4294967296+dig xs n)*4294967296^n+r:=by
 refine⟨val (xs.take n),qR xs n,?_⟩;have e1:=kR xs n;have e2:=zG xs n;have e3:=zG xs (n+1);rw[z8 (show xs.length<=n+1+1 by omega),Ko,XP]at e3;rw[e3]at e2;rw[e1,e2];generalize dig xs (n+1)=a;generalize dig xs n=b;generalize 4294967296^n=p
 grind
variable{P:Nat}{v1:Nat}{v2:Nat}{rv:Nat}{top:Nat}{u2:Nat}{ru:Nat}{r:Nat}
def zpX{q:Nat}(hrv:rv<P)(hru:ru<P)(hv1:2147483648<=v1)(hv2:v2<4294967296)(e:q*v1+r=top)(hq:q<=4294967296)(hle:q*v2<=r*4294967296+u2)(hQ:((top*4294967296+u2)*P+ru)/((v1*4294967296+v2)*P+rv)<=q):
  q=((top*4294967296+u2)*P+ru)/((v1*4294967296+v2)*P+rv)∨q=((top*4294967296+u2)*P+ru)/((v1*4294967296+v2)*P+rv)+1:=by
 have hP:0<P:=oM
 have hV:0<(v1*4294967296+v2)*P+rv:=by
  have:0<(v1*4294967296+v2)*P:=Nat.mul_pos oM hP;omega
 have key:(q-1)*((v1*4294967296+v2)*P+rv)<=(top*4294967296+u2)*P+ru:=by
  rcases Kr q with h0|h0
  ·subst h0;simp
  obtain⟨p,rfl⟩:∃p,q=p+1:=⟨q-1,oM⟩;rw[Qr]
  have h1:p*((v1*4294967296+v2)*P+rv)<=p*((v1*4294967296+v2+1)*P):=by
   refine Kf _ ?_;rw[X2 _ 1 P];omega
  have h2:p*(v1*4294967296+v2+1)<=top*4294967296+u2:=by
   have a1:(p+1)*v1=p*v1+v1:=by rw[X2];omega
   have a2:(p+1)*v2=p*v2+v2:=by rw[X2];omega
   have a3:p*(v1*4294967296+v2+1)=(p*v1)*4294967296+p*v2+p:=by
    rw[KE,KE,KC];omega
   rw[a1]at e;rw[a2]at hle;rw[a3];omega
  have h3:p*((v1*4294967296+v2+1)*P)<=(top*4294967296+u2)*P:=by
   rw[←KC];exact Xv _ h2
  omega
 have:=(Jn hV).2 key;omega
def zvf{q:Nat}(hru:ru<P)(e:q*v1+r=top)(hgt:r*4294967296+u2<q*v2):
  ((top*4294967296+u2)*P+ru)/((v1*4294967296+v2)*P+rv)<q:=by
 have hP:0<P:=oM
 have hq:0<q:=by
  rcases Kr q with h|h
  ·subst h;omega
  exact h
 have h1:top*4294967296+u2+1<=q*(v1*4294967296+v2):=by
  have a3:q*(v1*4294967296+v2)=(q*v1)*4294967296+q*v2:=by rw[KE,KC]
  rw[a3];omega
 have h2:(top*4294967296+u2)*P+ru<q*((v1*4294967296+v2)*P+rv):=by
  have a1:(top*4294967296+u2+1)*P<=q*(v1*4294967296+v2)*P:=Xv _ h1
  have a2:q*(v1*4294967296+v2)*P<=q*((v1*4294967296+v2)*P+rv):=by
   rw[KC];exact Kf _ (Js _ _)
  rw[X2 _ 1 P]at a1;omega
 have hV:0<(v1*4294967296+v2)*P+rv:=by
  rcases Kr ((v1*4294967296+v2)*P+rv) with h|h
  ·rw[h]at h2;omega
  exact h
 exact(XS hV).2 h2
def zvg{p q c b ui y lo c' ui' b' U V R:Nat}(h:R+q*V=U+p*(c+b))(hl:lo+4294967296*c'=c+q*y)(hu:ui'+lo+b=ui+4294967296*b'):
  R+p*ui'+q*(V+p*y)=U+p*ui+p*4294967296*(c'+b'):=by
 have e1:ui'+(c+q*y)+b=ui+4294967296*(c'+b'):=oM;have e2:p*(ui'+(c+q*y)+b)=p*(ui+4294967296*(c'+b')):=by rw[e1]
 grind
end Go.Gs
