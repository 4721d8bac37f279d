/- Transforms, the program's. -/
import Derived.Test.YtakicgnbhdpknaaGreatDoorNAV
set_option maxRecDepth 100000
set_option maxHeartbeats 8000000
set_option linter.all false
namespace Go.Gs
open Proofs.Tryz
open Go.Proofs
structure AF where
 a:BR
 b:BR
 c:BR
 d:BR
 e:BR
 f:BR
def afE(t:AF):LR:=brE t.a++(brE t.b++(brE t.c++(brE t.d++(brE t.e++brE t.f))))
def AF.le(t:AF)(n:Nat):Prop:=t.a.len<=n/\t.b.len<=n/\t.c.len<=n/\t.d.len<=n/\t.e.len<=n/\t.f.len<=n
def AF.nth(t:AF):Nat->BR
 |0=>t.a
 |1=>t.b
 |2=>t.c
 |3=>t.d
 |4=>t.e
 |_=>t.f
def stage(t:AF):Nat->AF
 |0=>t
 |1=>{ t with a:=ofQ t.a.v }
 |2=>{ t with a:=ofQ t.a.v,b:=ofQ t.b.v }
 |3=>{ t with a:=ofQ t.a.v,b:=ofQ t.b.v,c:=ofQ t.c.v }
 |4=>{ t with a:=ofQ t.a.v,b:=ofQ t.b.v,c:=ofQ t.c.v,d:=ofQ t.d.v }
 |5=>{ t with a:=ofQ t.a.v,b:=ofQ t.b.v,c:=ofQ t.c.v,d:=ofQ t.d.v,e:=ofQ t.e.v }
 |_=>⟨ofQ t.a.v,ofQ t.b.v,ofQ t.c.v,ofQ t.d.v,ofQ t.e.v,ofQ t.f.v⟩
def AF.nrm(t:AF):AF:=⟨ofQ t.a.v,ofQ t.b.v,ofQ t.c.v,ofQ t.d.v,ofQ t.e.v,ofQ t.f.v⟩
def uf:LR:=(List.replicate 12 [bl false,nS]).flatten
def zez(t:AF)(ht:t.le 400000000):CX 258 [.agg (afE t)] (.agg (afE t.nrm)):=by
 obtain⟨ha,hb,hc,hd,he,hf⟩:=ht;refine zc func258 ?_
 refine⟨Nat,λi=>⟨[(20,i64 i),(19,.agg (afE t)),(3,.loc 2 0),(2,.loc 1 0)],[(2,.box 281 (afE (stage t i))),(1,.box 281 uf),(0,.box 57 (afE t))],3,30,0⟩,
  λi=>i<=6,λi=>6-i,0,Xh _,zf [0,1,2],?_⟩
 intro i hi;have hi:i=0∨i=1∨i=2∨i=3∨i=4∨i=5∨i=6:=by have hi:i<=6:=hi;omega
 rcases hi with rfl|rfl|rfl|rfl|rfl|rfl|rfl
 ·exact we<|wg (qS t.a ha)<|Ar.fit dC<|⟨1,(by show 1<=6;decide),zf [0,1,2],dC⟩
 ·exact we<|wg (qS t.b hb)<|Ar.fit dC<|⟨2,(by show 2<=6;decide),zf [0,1,2],dC⟩
 ·exact we<|wg (qS t.c hc)<|Ar.fit dC<|⟨3,(by show 3<=6;decide),zf [0,1,2],dC⟩
 ·exact we<|wg (qS t.d hd)<|Ar.fit dC<|⟨4,(by show 4<=6;decide),zf [0,1,2],dC⟩
 ·exact we<|wg (qS t.e he)<|Ar.fit dC<|⟨5,(by show 5<=6;decide),zf [0,1,2],dC⟩
 ·exact we<|wg (qS t.f hf)<|Ar.fit dC<|⟨6,(by show 6<=6;decide),zf [0,1,2],dC⟩
 refine⟨λh=>absurd h dC,λ_=>?_⟩;exact .refl
def zsh(t:AF):CX 302 [.agg (afE t)] (.agg (afE t)):=by
 exact zc func302<|zfZ.own<|.refl
def okI(t:AF):LI
 |0=>True
 |k+1=>okI t k/\zb7 (t.nth k).v<=256
def AF.ok(t:AF):Prop:=okI t 6
instance (t:AF):∀n,Decidable (okI t n):=λn=>by
 induction n with
 |zero=>exact isTrue trivial
 |succ k ih=>unfold okI;exact instDecidableAnd
instance (t:AF):Decidable t.ok:=inferInstanceAs (Decidable (okI t 6))
def zgD(t:AF)(ht:t.le 100000000):CX 184 [.agg (afE t)] (pr t.ok):=by
 have ht':=ht;obtain⟨ha,hb,hc,hd,he,hf⟩:=ht;refine zc func184<|wg (zez t ⟨oM,oM,oM,oM,oM,oM⟩)<|⟨Nat,λi=>⟨[(6,.agg (afE t.nrm)),(7,i64 i)],[],1,14,0⟩,λi=>i<=6/\okI t i,λi=>6-i,0,⟨Xh _,tV⟩,?_,?_⟩
 ·exact zB []
 rintro i ⟨hi,ok⟩
 have hi:i=0∨i=1∨i=2∨i=3∨i=4∨i=5∨i=6:=oM
 rcases hi with rfl|rfl|rfl|rfl|rfl|rfl|rfl
 ·refine we ?_;have l1:=zO t.a;refine wg (zb8 (ofQ t.a.v) (by rw[zF];omega)) ?_;rw[kv];refine⟨λh=>zd (λh'=>?_),λh=>?_⟩
  ·simp only[AF.ok,okI,AF.nth]at h';omega
  exact Ar.fit dC<|⟨1,⟨(by show 1<=6;decide),ok,(by show zb7 t.a.v<=256;omega)⟩,zB [],dC⟩
 ·refine we ?_;have l1:=zO t.b;refine wg (zb8 (ofQ t.b.v) (by rw[zF];omega)) ?_;rw[kv];refine⟨λh=>zd (λh'=>?_),λh=>?_⟩
  ·simp only[AF.ok,okI,AF.nth]at h';omega
  exact Ar.fit dC<|⟨2,⟨(by show 2<=6;decide),ok,(by show zb7 t.b.v<=256;omega)⟩,zB [],dC⟩
 ·refine we ?_;have l1:=zO t.c;refine wg (zb8 (ofQ t.c.v) (by rw[zF];omega)) ?_;rw[kv];refine⟨λh=>zd (λh'=>?_),λh=>?_⟩
  ·simp only[AF.ok,okI,AF.nth]at h';omega
  exact Ar.fit dC<|⟨3,⟨(by show 3<=6;decide),ok,(by show zb7 t.c.v<=256;omega)⟩,zB [],dC⟩
 ·refine we ?_;have l1:=zO t.d;refine wg (zb8 (ofQ t.d.v) (by rw[zF];omega)) ?_;rw[kv];refine⟨λh=>zd (λh'=>?_),λh=>?_⟩
  ·simp only[AF.ok,okI,AF.nth]at h';omega
  exact Ar.fit dC<|⟨4,⟨(by show 4<=6;decide),ok,(by show zb7 t.d.v<=256;omega)⟩,zB [],dC⟩
 ·refine we ?_;have l1:=zO t.e;refine wg (zb8 (ofQ t.e.v) (by rw[zF];omega)) ?_;rw[kv];refine⟨λh=>zd (λh'=>?_),λh=>?_⟩
  ·simp only[AF.ok,okI,AF.nth]at h';omega
  exact Ar.fit dC<|⟨5,⟨(by show 5<=6;decide),ok,(by show zb7 t.e.v<=256;omega)⟩,zB [],dC⟩
 ·refine we ?_;have l1:=zO t.f;refine wg (zb8 (ofQ t.f.v) (by rw[zF];omega)) ?_;rw[kv];refine⟨λh=>zd (λh'=>?_),λh=>?_⟩
  ·simp only[AF.ok,okI,AF.nth]at h';omega
  exact Ar.fit dC<|⟨6,⟨(by show 6<=6;decide),ok,(by show zb7 t.f.v<=256;omega)⟩,zB [],dC⟩
 refine⟨λh=>absurd h dC,λ_=>?_⟩;exact zH ok
def zhH(a b c d:BR)(ha:a.len<=10000000)(hb:b.len<=10000000)(hc:c.len<=10000000)(hd:d.len<=10000000):
  CX 303 [wm a,wm b,wm c,wm d] (wm (ofQ (a.v*b.v+c.v*d.v))):=by
 have l1:=zO a;have l2:=zO b;have l3:=zO c;have l4:=zO d;have m1:=yH a.v b.v;have m2:=yH c.v d.v;refine zc func303<|wc<|wg (ztR a b oM oM)<|wg (ztR c d oM oM)<|wg (zp4 (ofQ (a.v*b.v)) (ofQ (c.v*d.v)) (by rw[zF];omega) (by rw[zF];omega)) ?_;rw[kv,kv];exact .refl
def vD(t:AF)(x y:Rat):Rat:=t.a.v*x+t.c.v*y+t.e.v
def vE(t:AF)(x y:Rat):Rat:=t.b.v*x+t.d.v*y+t.f.v
def qQ(a b c d e:BR){n:Nat}(h1:a.len<=n)(h2:b.len<=n)(h3:c.len<=n)(h4:d.len<=n)(h5:e.len<=n):yV (a.v*b.v+c.v*d.v)<=4*n+5/\yV (a.v*b.v+c.v*d.v+e.v)<=5*n+7:=by
 have l1:=zO a;have l2:=zO b;have l3:=zO c;have l4:=zO d;have l5:=zO e;have m1:=yH a.v b.v;have m2:=yH c.v d.v;have m3:=zbg (a.v*b.v) (c.v*d.v);have m4:=zbg (a.v*b.v+c.v*d.v) e.v;omega
def ztW(t:AF)(x y:BR)(ht:t.le 5000000)(hx:x.len<=5000000)(hy:y.len<=5000000):
  CX 301 [.agg (afE t),wm x,wm y] (.tup [wm (ofQ (vD t x.v y.v)),wm (ofQ (vE t x.v y.v))]):=by
 obtain⟨ha,hb,hc,hd,he,hf⟩:=ht;have m1:=qQ t.a x t.c y t.e ha hx hc hy he;have m2:=qQ t.b x t.d y t.f hb hx hd hy hf;refine zc func301<|wc<|wg (zhH t.a x t.c y oM oM oM oM)<|wg (zp4 (ofQ (t.a.v*x.v+t.c.v*y.v)) t.e (by rw[zF];omega) oM)<|wg (zhH t.b x t.d y oM oM oM oM)<|wg (zp4 (ofQ (t.b.v*x.v+t.d.v*y.v)) t.f (by rw[zF];omega) oM) ?_;rw[kv,kv];exact .refl
def afQ(a b c d e f:Rat):AF:=⟨ofQ a,ofQ b,ofQ c,ofQ d,ofQ e,ofQ f⟩
def zDN(a b c d:Int)(ha:R64 a)(hb:R64 b)(hc:R64 c)(hd:R64 d):CX 300 [i64 a,i64 b,i64 c,i64 d] (.agg (afE (afQ a b c d ((0:Int):Rat) ((0:Int):Rat)))):=by
 refine zc func300<|wg (yO a ha)<|wg (yO b hb)<|wg (yO c hc)<|wg (yO d hd)<|wg (yO 0 dC) ?_;exact wg (yO 0 dC)<|wg (zsh (afQ a b c d ((0:Int):Rat) ((0:Int):Rat)))<|.refl
def zsi:CX 240 [] (.agg (afE (afQ ((1:Int):Rat) ((0:Int):Rat) ((0:Int):Rat) ((1:Int):Rat) ((0:Int):Rat) ((0:Int):Rat)))):=by
 exact zc func240<|wg (zDN 1 0 0 1 dC dC dC dC)<|.refl
def goP(t:AF)(p:Pt):Pt:=⟨(vD t (p.x:Rat) (p.y:Rat)+Rat.divInt 1 2).floor,(vE t (p.x:Rat) (p.y:Rat)+Rat.divInt 1 2).floor⟩
def kr(t:AF)(p:Pt):Pt×Int:=if¬t.ok then(zp,5) else if¬zr p then(zp,6) else if zr (goP t p) then(goP t p,0) else(zp,6)
def zeA(t:AF)(p:Pt)(ht:t.le 100000):CX 244 [.agg (afE t),wk p] (.tup [wk (kr t p).1,i64 (kr t p).2]):=by
 obtain⟨ha,hb,hc,hd,he,hf⟩:=ht;refine zc func244 ?_;have fin:∀(q:Pt) (n:Int),(kr t p)=(q,n)->LE (.tup [wk q,i64 n]) (.tup [wk (kr t p).1,i64 (kr t p).2]):=λq n h=>by rw[h];exact .refl
 refine wg (zgD t ⟨oM,oM,oM,oM,oM,oM⟩)<|⟨λh1=>?_,λh1=>?_⟩
 ·exact fin zp 5 (by rw[kr,Xe h1])
 refine wg (kY p)<|⟨λh2=>?_,λh2=>?_⟩
 ·exact fin zp 6 (by rw[kr,Xc h1,Xe h2])
 have hp:zr p:=XN h2;have hx:R64 p.x:=by unfold R64;unfold zr at hp;omega
 have hy:R64 p.y:=by unfold R64;unfold zr at hp;omega
 have lx:=zdP p.x;have ly:=zdP p.y;have zx:=jk hx;have zy:=jk hy;refine wc<|wg (yO p.x hx)<|wg (yO p.y hy)<|wg (ztW t (ofQ (p.x:Rat)) (ofQ (p.y:Rat)) ⟨oM,oM,oM,oM,oM,oM⟩ (by rw[zF];omega) (by rw[zF];omega)) ?_;rw[kv,kv];have lX:=qQ t.a (ofQ (p.x:Rat)) t.c (ofQ (p.y:Rat)) t.e (n:=100000) ha (by rw[zF];omega) hc (by rw[zF];omega) he;have lY:=qQ t.b (ofQ (p.x:Rat)) t.d (ofQ (p.y:Rat)) t.f (n:=100000) hb (by rw[zF];omega) hd (by rw[zF];omega) hf;rw[kv,kv]at lX lY
 have lh:yV (Rat.divInt 1 2)<=1:=by decide +kernel
 have mX:=zbg (vD t p.x p.y) (Rat.divInt 1 2);have mY:=zbg (vE t p.x p.y) (Rat.divInt 1 2);have lX2:yV (vD t p.x p.y)<=500007:=lX.2;have lY2:yV (vE t p.x p.y)<=500007:=lY.2
 have fl:∀q:Rat,jm q.floor<=yV q:=λq=>XB (zb0 (by
  rw[JZ]
  exact QZ _ _)) (qu q)
 have fX:=fl (vD t p.x p.y+Rat.divInt 1 2);have fY:=fl (vE t p.x p.y+Rat.divInt 1 2);refine wg (zse 1 2 dC dC dC)<|wg (zp4 (ofQ (vD t p.x p.y)) (ofQ (Rat.divInt 1 2)) (by rw[zF];omega) (by rw[zF];omega)) ?_;rw[kv,kv];refine wg (ztS (ofQ (vD t p.x p.y+Rat.divInt 1 2)) (by rw[zF];omega)) ?_;rw[kv];refine wg (ztQ (ofZ (vD t p.x p.y+Rat.divInt 1 2).floor) (by rw[zT];omega))<|wg (zp4 (ofQ (vE t p.x p.y)) (ofQ (Rat.divInt 1 2)) (by rw[zF];omega) (by rw[zF];omega)) ?_;rw[kv,kv]
 refine wg (ztS (ofQ (vE t p.x p.y+Rat.divInt 1 2)) (by rw[zF];omega)) ?_;rw[kv];refine wg (ztQ (ofZ (vE t p.x p.y+Rat.divInt 1 2).floor) (by rw[zT];omega)) ?_;rw[zY,zY];obtain⟨X,hX⟩:∃X,(vD t p.x p.y+Rat.divInt 1 2).floor=X:=⟨_,rfl⟩;obtain⟨Y,hY⟩:∃Y,(vE t p.x p.y+Rat.divInt 1 2).floor=Y:=⟨_,rfl⟩;have hg:goP t p=⟨X,Y⟩:=by unfold goP;rw[hX,hY]
 rw[hX,hY];have out:¬zr ⟨X,Y⟩->kr t p=(zp,6):=λh=>by rw[kr,Xc h1,Xc h2,Xc (by rw[hg];exact h)]
 have inn:zr ⟨X,Y⟩->kr t p=(⟨X,Y⟩,0):=λh=>by rw[kr,Xc h1,Xc h2,Xe (by rw[hg];exact h),hg]
 have big:zr ⟨X,Y⟩->(-9223372036854775808<=X/\X<=9223372036854775807)/\(-9223372036854775808<=Y/\Y<=9223372036854775807):=λh=>by unfold zr at h;dsimp only at h;omega
 refine⟨λh3=>?_,λh3=>?_⟩
 ·refine⟨λh4=>?_,λh4=>?_⟩
  ·refine wg (kY ⟨y4 X,y4 Y⟩) ?_;rw[y4,Xe h3,y4,Xe h4];refine⟨λh5=>?_,λh5=>?_⟩
   ·exact fin ⟨X,Y⟩ 0 (inn h5)
   exact fin zp 6 (out h5)
  exact fin zp 6 (out λh=>h4 (big h).2)
 exact fin zp 6 (out λh=>h3 (big h).1)
def qT(t:AF):LU->Int
 |[]=>0
 |p::r=>if (kr t p).2≠0 then(kr t p).2 else qT t r
def vP(t:AF)(s:Sg):Sg:=zj8 s.v ((kB s).map λp=>(kr t p).1)
def trans(t:AF)(l:LX):LX×Int:=
 if¬qM l then([],10) else if qT t (qc l)≠0 then([],qT t (qc l)) else(l.map (vP t),0)
def jC(t:AF):∀q r:LU,qT t (q++r)=if qT t q≠0 then qT t q else qT t r
 |[],r=>by simp[qT]
 |p::q,r=>by
  rw[Jq,qT,qT,jC t q r]
  by_cases h:(kr t p).2=0
  ·simp[h]
  simp[h]
def vq{t:AF}{q:LU}{k:Nat}{p:Pt}(h0:qT t (q.take k)=0)(hp:q[k]?=some p):
  ((kr t p).2=0->qT t (q.take (k+1))=0)/\((kr t p).2≠0->qT t q=(kr t p).2):=by
 have e:q.take (k+1)=q.take k++[p]:=by rw[Xl,hp];rfl
 have e1:qT t (q.take (k+1))=(kr t p).2:=by
  rw[e,jC,h0]
  by_cases h:(kr t p).2=0 <;> simp[qT,h]
 refine⟨λh=>by rw[e1,h],λh=>?_⟩;have:=jC t (q.take (k+1)) (q.drop (k+1));rw[Kj,e1,Xe h]at this;exact this
def zx4(s:Sg):(kB s).length<=3:=by
 unfold kB;have:=zdG s.v;simp only[Xo,Xn,Xr];omega
def zAQ(l:LX)(t:AF)(ht:t.le 100000)(hlen:l.length<=300):CX 172 [.sl sgE l,.agg (afE t)] (.tup [.sl sgE (trans t l).1,i64 (trans t l).2]):=by
 refine zc func172 ?_
 have bad:∀e:Int,trans t l=([],e)->LE (.tup [nS,i64 e]) (.tup [.sl sgE (trans t l).1,i64 (trans t l).2]):=λe h=>by
  rw[h];exact zM zC .refl
 refine wg (ziY l)<|⟨λh1=>?_,λh1=>?_⟩
 ·exact bad 10 (by rw[trans,Xe h1])
 intro hl
 refine⟨Nat×Option LX,λq=>match q with
   |(i,none)=>⟨[(19,i64 i),(18,i64 l.length),(17,.sl sgE l),(6,.val (.slice none 0 0)),(3,.loc 0 0)],[(0,.box 57 (afE t))],1,53,0⟩
   |(i,some out)=>⟨[(19,i64 i),(18,i64 l.length),(17,.sl sgE l),(6,.own 1),(3,.loc 0 0)],[(1,.arr 108 sgE 7 out),(0,.box 57 (afE t))],2,53,0⟩,
  λq=>match q with
   |(i,none)=>i=0
   |(i,some out)=>i<=l.length/\out=(l.take i).map (vP t)/\qT t (qc (l.take i))=0,λq=>l.length-q.1,(0,none),rfl,?_,?_⟩
 ·exact zf [0]
 have errs:∀(i:Nat) (x:Sg) (p:Pt) (k:Nat),qT t (qc (l.take i))=0->l[i]?=some x->qT t ((kB x).take k)=0->(kB x)[k]?=some p->(kr t p).2≠0->trans t l=([],(kr t p).2):=by
  intro i x p k h0 hx hk hp he;have e2:=(vq hk hp).2 he
  have e3:qT t (qc l)=(kr t p).2:=by
   have hd:=zgp hx
   have:qc l=qc (l.take i)++(kB x++qc (l.drop (i+1))):=by
    conv=>lhs;rw[←Kj i l,hd]
    simp[qc]
   rw[this,jC,h0];simp only[ne_eq,not_true_eq_false,if_false];rw[jC,e2,Xe he]
  rw[trans,Xc h1,e3,Xe he]
 have fin0:∀i x,qT t (qc (l.take i))=0->l[i]?=some x->qT t (kB x)=0->qT t (qc (l.take (i+1)))=0:=λi x h0 hx hk=>by
  rw[zil hx,jC,h0];simpa using hk
 rintro⟨i,_|out⟩ hI
 ·have hI:i=0:=hI;subst hI;have hi0:qT t (qc (l.take 0))=0:=rfl;have hil:0<=l.length:=Xh _;refine⟨λh2=>?_,λh2=>?_⟩
  ·refine wb λx(hx:l[0]?=some x)=>?_;refine wg (zpK x) λhl4=>?_
   refine⟨Nat×Option LU,λq=>match q with
     |(k,none)=>⟨[(26,i64 k),(25,i64 (kB x).length),(24,.sl ptE (kB x)),(9,.val (.slice none 0 0)),(8,.loc 1 0),(19,i64 (0:Nat)),(18,i64 l.length),(17,.sl sgE l),(6,.val (.slice none 0 0)),(3,.loc 0 0)],[(1,.box 108 (sgE x)),(0,.box 57 (afE t))],2,53,0⟩
     |(k,some to)=>⟨[(26,i64 k),(25,i64 (kB x).length),(24,.sl ptE (kB x)),(9,.own 2),(8,.loc 1 0),(19,i64 (0:Nat)),(18,i64 l.length),(17,.sl sgE l),(6,.val (.slice none 0 0)),(3,.loc 0 0)],[(2,.arr 28 ptE 2 to),(1,.box 108 (sgE x)),(0,.box 57 (afE t))],3,53,0⟩,
    λq=>match q with
     |(k,none)=>k=0
     |(k,some to)=>k<=(kB x).length/\to=((kB x).take k).map (λp=>(kr t p).1)/\qT t ((kB x).take k)=0,λq=>(kB x).length-q.1,(0,none),rfl,?_,?_⟩
   ·exact zf [0,1]
   have hx3:=zx4 x
   rintro⟨k,_|to⟩ hK
   ·have hK:k=0:=hK;subst hK;have hk0:qT t ((kB x).take 0)=0:=rfl;have hkl:0<=(kB x).length:=Xh _;refine⟨λh4=>?_,λh4=>?_⟩
    ·refine wb λp(hp:(kB x)[0]?=some p)=>?_;refine wg (zeA t p ht)<|⟨λh5=>?_,λh5=>?_⟩
     ·exact bad _ (errs 0 x p 0 hi0 hx hk0 hp h5)
     have h5:(kr t p).2=0:=XN h5;have hk1:=(vq hk0 hp).1 h5;refine⟨Pt,ptE,[(kr t p).1],rfl,wb0 ?_⟩;refine⟨_,_,_,rfl,wb18 ?_⟩;refine Ar.fit dC ?_;refine⟨(1,some [(kr t p).1]),⟨oM,(by rw[Xl,hp];rfl),hk1⟩,zf [0,1,5],oN⟩
    have hp0:kB x=[]:=XM.1 oM;have hgo:zj8 x.v []=vP t x:=by rw[vP,hp0];rfl
    have hall:=fin0 0 x hi0 hx (by rw[hp0];rfl);refine wg ((zn5 x.v []).args (.C (.cons zC .nil))) ?_;rw[hgo];refine⟨Sg,sgE,[vP t x],rfl,wb0 ?_⟩;refine⟨_,_,_,rfl,wb19 ?_⟩;refine Ar.fit dC ?_;refine⟨(1,some [vP t x]),⟨oM,(by rw[Xl,hx];rfl),hall⟩,(by first|exact zf [0,2]|exact zf [0,3]|exact zf [0,4]|exact zf [0,5]|exact zf [0,6]|exact zf [0,7]|exact zf [0,8]),oN⟩
   obtain⟨hkl,hto,hk0⟩:=hK;refine⟨λh4=>?_,λh4=>?_⟩
   ·refine wb λp(hp:(kB x)[k]?=some p)=>?_;refine wg (zeA t p ht)<|⟨λh5=>?_,λh5=>?_⟩
    ·exact bad _ (errs 0 x p k hi0 hx hk0 hp h5)
    have h5:(kr t p).2=0:=XN h5;have hk1:=(vq hk0 hp).1 h5;refine⟨Pt,ptE,[(kr t p).1],rfl,wb0 ?_⟩;have htl:to.length=k:=by rw[hto];simp;omega
    refine⟨_,rfl,wb20 ?_⟩;refine wa ?_;refine⟨(k+1,some (to++[(kr t p).1])),⟨oM,(by rw[Xl,hp,hto];simp),hk1⟩,zf [0,1,6],oN⟩
   have hkk:k=(kB x).length:=by omega
   subst hkk;rw[X1]at hto hk0;have hgo:zj8 x.v to=vP t x:=by rw[vP,hto]
   have hall:=fin0 0 x hi0 hx hk0;refine wg (zn5 x.v to) ?_;rw[hgo];refine⟨Sg,sgE,[vP t x],rfl,wb0 ?_⟩;refine⟨_,_,_,rfl,wb19 ?_⟩;refine Ar.fit dC ?_;refine⟨(1,some [vP t x]),⟨oM,(by rw[Xl,hx];rfl),hall⟩,(by first|exact zf [0,2]|exact zf [0,3]|exact zf [0,4]|exact zf [0,5]|exact zf [0,6]|exact zf [0,7]|exact zf [0,8]),oN⟩
  have hii:0=l.length:=by omega
  have htr:trans t l=(l.map (vP t),0):=by
   rw[hii,X1]at hi0;rw[trans,Xc h1,hi0,Xc (λk=>k rfl)]
  exact bad 0 (by rw[htr,XM.1 hii.symm];rfl)
 obtain⟨hil,hout,hi0⟩:=hI;refine⟨λh2=>?_,λh2=>?_⟩
 ·refine wb λx(hx:l[i]?=some x)=>?_;refine wg (zpK x) λhl4=>?_
  refine⟨Nat×Option LU,λq=>match q with
    |(k,none)=>⟨[(26,i64 k),(25,i64 (kB x).length),(24,.sl ptE (kB x)),(9,.val (.slice none 0 0)),(8,.loc 2 0),(19,i64 i),(18,i64 l.length),(17,.sl sgE l),(6,.own 1),(3,.loc 0 0)],[(2,.box 108 (sgE x)),(1,.arr 108 sgE 7 out),(0,.box 57 (afE t))],3,53,0⟩
    |(k,some to)=>⟨[(26,i64 k),(25,i64 (kB x).length),(24,.sl ptE (kB x)),(9,.own 3),(8,.loc 2 0),(19,i64 i),(18,i64 l.length),(17,.sl sgE l),(6,.own 1),(3,.loc 0 0)],[(3,.arr 28 ptE 2 to),(2,.box 108 (sgE x)),(1,.arr 108 sgE 7 out),(0,.box 57 (afE t))],4,53,0⟩,
   λq=>match q with
    |(k,none)=>k=0
    |(k,some to)=>k<=(kB x).length/\to=((kB x).take k).map (λp=>(kr t p).1)/\qT t ((kB x).take k)=0,λq=>(kB x).length-q.1,(0,none),rfl,?_,?_⟩
  ·exact zf [0,1,2]
  have hx3:=zx4 x
  rintro⟨k,_|to⟩ hK
  ·have hK:k=0:=hK;subst hK;have hk0:qT t ((kB x).take 0)=0:=rfl;have hkl:0<=(kB x).length:=Xh _;refine⟨λh4=>?_,λh4=>?_⟩
   ·refine wb λp(hp:(kB x)[0]?=some p)=>?_;refine wg (zeA t p ht)<|⟨λh5=>?_,λh5=>?_⟩
    ·exact bad _ (errs i x p 0 hi0 hx hk0 hp h5)
    have h5:(kr t p).2=0:=XN h5;have hk1:=(vq hk0 hp).1 h5;refine⟨Pt,ptE,[(kr t p).1],rfl,wb0 ?_⟩;refine⟨_,_,_,rfl,wb18 ?_⟩;refine Ar.fit dC ?_;refine⟨(1,some [(kr t p).1]),⟨oM,(by rw[Xl,hp];rfl),hk1⟩,zf [0,1,2,6],oN⟩
   have hp0:kB x=[]:=XM.1 oM;have hgo:zj8 x.v []=vP t x:=by rw[vP,hp0];rfl
   have hall:=fin0 i x hi0 hx (by rw[hp0];rfl);refine wg ((zn5 x.v []).args (.C (.cons zC .nil))) ?_;rw[hgo];refine⟨Sg,sgE,[vP t x],rfl,wb0 ?_⟩;have hol:out.length=i:=by rw[hout];simp;omega
   refine⟨_,rfl,wb21 ?_⟩;refine wa ?_;refine⟨(i+1,some (out++[vP t x])),⟨oM,(by rw[Xl,hx,hout];simp),hall⟩,(by first|exact zf [0,2]|exact zf [0,3]|exact zf [0,4]|exact zf [0,5]|exact zf [0,6]|exact zf [0,7]|exact zf [0,8]),oN⟩
  obtain⟨hkl,hto,hk0⟩:=hK;refine⟨λh4=>?_,λh4=>?_⟩
  ·refine wb λp(hp:(kB x)[k]?=some p)=>?_;refine wg (zeA t p ht)<|⟨λh5=>?_,λh5=>?_⟩
   ·exact bad _ (errs i x p k hi0 hx hk0 hp h5)
   have h5:(kr t p).2=0:=XN h5;have hk1:=(vq hk0 hp).1 h5;refine⟨Pt,ptE,[(kr t p).1],rfl,wb0 ?_⟩;have htl:to.length=k:=by rw[hto];simp;omega
   refine⟨_,rfl,wb20 ?_⟩;refine wa ?_;refine⟨(k+1,some (to++[(kr t p).1])),⟨oM,(by rw[Xl,hp,hto];simp),hk1⟩,zf [0,1,2,7],oN⟩
  have hkk:k=(kB x).length:=by omega
  subst hkk;rw[X1]at hto hk0;have hgo:zj8 x.v to=vP t x:=by rw[vP,hto]
  have hall:=fin0 i x hi0 hx hk0;refine wg (zn5 x.v to) ?_;rw[hgo];refine⟨Sg,sgE,[vP t x],rfl,wb0 ?_⟩;have hol:out.length=i:=by rw[hout];simp;omega
  refine⟨_,rfl,wb21 ?_⟩;refine wa ?_;refine⟨(i+1,some (out++[vP t x])),⟨oM,(by rw[Xl,hx,hout];simp),hall⟩,(by first|exact zf [0,2]|exact zf [0,3]|exact zf [0,4]|exact zf [0,5]|exact zf [0,6]|exact zf [0,7]|exact zf [0,8]),oN⟩
 have hii:i=l.length:=by omega
 have htr:trans t l=(l.map (vP t),0):=by
  rw[hii,X1]at hi0;rw[trans,Xc h1,hi0,Xc (λk=>k rfl)]
 rw[hii,X1]at hout;rw[htr,←hout];exact zM .refl .refl
def part(f:Pt->Pt)(j:Nat)(s:Sg):Sg:=⟨s.v,if 1<=j then f s.a else s.a,if 2<=j then f s.b else s.b,if 3<=j then f s.c else s.c⟩
def zfa(f:Pt->Pt)(s:Sg):Sg:=part f (nm s.v).toNat s
def zx5{l:LX}(h:qM l):∀p∈qc l,zr p:=λp hp=>by
 obtain⟨s,hs,hp⟩:=QF.1 hp
 have hf:zc7 s:=by
  have e:=zmo l;rw[←e]at hs;obtain⟨g,hg,hsg⟩:=J2.1 hs;obtain⟨k,m,mid,_,_,g3,_⟩:=zpL h g hg;exact g3 s hsg
 have hp:=XL hp;simp only[XY,XR,or_false]at hp
 rcases hp with rfl|rfl|rfl
 ·exact hf.1.1
 ·exact hf.2.1.1
 exact hf.2.2.1
def zx6{l:LX}(h:qM l){s:Sg}(hs:s∈l):zc7 s:=by
 have e:=zmo l;rw[←e]at hs;obtain⟨g,hg,hsg⟩:=J2.1 hs;obtain⟨k,m,mid,_,_,g3,_⟩:=zpL h g hg;exact g3 s hsg
def ztX{f:Pt->Pt->Pt}(hf:∀p q,zr p->zr q->zr (f p q)):∀(q:LU) (p:Pt),zr p->(∀r∈q,zr r)->zr (q.foldl f p)
 |[],_,hp,_=>hp
 |a::q,p,hp,h=>ztX hf q (f p a) (hf p a hp (h a (.head _))) λr hr=>h r (.tail _ hr)
def zx7{f:Pt->Pt->Pt}(hf:∀p q,zr p->zr q->zr (f p q)){q:LU}(h:∀r∈q,zr r):zr (bnd f q):=by
 cases q with
 |nil=>exact zp_ok
 |cons a r=>exact ztX hf (a::r) a (h a (.head _)) h
def us(v:Int):Int:=max (nm v) 0
def zDO(f:Pt->Pt)(j:Nat)(s:Sg):(part f j s).v=s.v:=rfl
def zvm(f:Pt->Pt)(s:Sg):kB (zfa f s)=(kB s).map f:=by
 have hr:=zdG s.v;have e:nm s.v<=0∨nm s.v=1∨nm s.v=2∨nm s.v=3:=oM;unfold kB zfa;rw[zDO]
 rcases e with e|e|e|e
 ·rw[show(nm s.v).toNat=0 by omega];rfl
 ·rw[show(nm s.v).toNat=1 by omega];rfl
 ·rw[show(nm s.v).toNat=2 by omega];rfl
 rw[show(nm s.v).toNat=3 by omega];rfl
def zAR(f:Pt->Pt)(l:LX):qc (l.map (zfa f))=(qc l).map f:=by
 induction l with
 |nil=>rfl
 |cons s r ih=>
  have e1:qc ((s::r).map (zfa f))=kB (zfa f s)++qc (r.map (zfa f)):=rfl;have e2:qc (s::r)=kB s++qc r:=rfl;rw[e1,e2,ih,zvm,XA]
def zkB:∀{l:LX} {last:Int},oks last l->∀s∈l,zc7 s
 |[],_,_,s,hs=>by cases hs
 |a::r,last,h,s,hs=>by
  rcases XY.1 hs with rfl|hs
  ·exact(uW.1 h.1).2.2
  exact zkB h.2 s hs
def ziw{lo hi:Pt}{l:LX}{tol:Int}(h0:(zW l tol).2=0)(hb:∀p∈qc l,inB lo hi p):
  qM l/\ze8 tol/\jn (zW l tol).1<=4096/\∀q∈(zW l tol).1,q.pts≠[]/\jB q.pts/\∀z∈q.pts,inB lo hi z:=by
 unfold zW at h0 ⊢
 by_cases h1:¬qM l
 ·rw[Xe h1]at h0;exact absurd h0 dC
 rw[Xc h1]at h0 ⊢
 by_cases h2:¬ze8 tol
 ·rw[Xe h2]at h0;exact absurd h0 dC
 rw[Xc h2]at h0 ⊢
 by_cases h3:(je l tol).2≠0
 ·rw[Xe h3]at h0;exact absurd h0 h3
 rw[Xc h3]at h0 ⊢
 by_cases h4:4096<jn (je l tol).1
 ·rw[Xe h4]at h0;exact absurd h0 dC
 rw[Xc h4];have:=zkx (tol:=tol) (zaU.1 (Xa.1 h1)).2 hb l.length (Xk _);rw[X1]at this;exact⟨Xa.1 h1,Xa.1 h2,oN,(this (Xa.1 h3)).2⟩
def uz(l:LZ):LQ:=(l.filter λp=>decide (3<=p.pts.length)).map Pl.pts
def yo(l:LX)(t:AF)(tol:Int):LQ×Int:=
 if (trans t l).2≠0 then([],(trans t l).2) else if (zW (trans t l).1 tol).2≠0 then([],(zW (trans t l).1 tol).2) else(uz (zW (trans t l).1 tol).1,0)
def zmz:∀l:LZ,qa (uz l)<=jn l
 |[]=>Xk _
 |p::r=>by
  have ih:=zmz r;have e:jn (p::r)=p.pts.length+jn r:=by unfold jn;simp
  unfold uz at ih ⊢;rw[Qp]
  split
  ·have:qa ((p::r.filter λp=>decide (3<=p.pts.length)).map Pl.pts)=p.pts.length+qa ((r.filter λp=>decide (3<=p.pts.length)).map Pl.pts):=by unfold qa;simp
   omega
  omega
def zvn{l:LZ}{r:LU}(h:r∈uz l):∃p∈l,p.pts=r:=by
 unfold uz at h;obtain⟨p,hp,rfl⟩:=XO.1 h;exact⟨p,(QL.1 hp).1,rfl⟩
def zsj{lo hi:Pt}{l:LX}{t:AF}{tol:Int}(h0:(yo l t tol).2=0)(hb:∀p∈qc (trans t l).1,inB lo hi p):qa (yo l t tol).1<=4096/\∀r∈(yo l t tol).1,∀p∈r,inB lo hi p:=by
 unfold yo at h0 ⊢
 by_cases h1:(trans t l).2≠0
 ·rw[Xe h1]at h0;exact absurd h0 h1
 rw[Xc h1]at h0 ⊢
 by_cases h2:(zW (trans t l).1 tol).2≠0
 ·rw[Xe h2]at h0;exact absurd h0 h2
 rw[Xc h2];have f:=ziw (Xa.1 h2) hb;refine⟨XB (zmz _) f.2.2.1,λr hr p hp=>?_⟩;obtain⟨q,hq,rfl⟩:=zvn hr;exact(f.2.2.2 q hq).2.2 p hp
def zmA{a b w:Int}(hw:0<=w)(h:2*(a.natAbs:Int)<=w*b.natAbs):((z6 a b).natAbs:Int)<=(w+1)/2:=by
 have e:=zdC a b;rw[e]
 by_cases hb:b.natAbs=0
 ·rw[hb];simp;omega
 have hb':(0:Int)<b.natAbs:=oM;generalize a.natAbs=A at*;generalize b.natAbs=B at*;rw[show(((2*A+B)/(2*B):Nat):Int)=(2*(A:Int)+B)/(2*B) by rw[J0];simp];have h1:(2*(A:Int)+B)/(2*B)<=(w*B+B)/(2*B):=Int.ediv_le_ediv oM oM;have h2:(w*B+B:Int)=B*(w+1):=by grind
 have h3:(w*B+B:Int)/(2*B)=(w+1)/2:=by
  rw[h2,QU 2 (B:Int),Int.mul_ediv_mul_of_pos _ _ hb']
 omega
def zgE(w:Int)(p:Pt):Prop:=(p.x.natAbs:Int)<=(w+1)/2/\(p.y.natAbs:Int)<=(w+1)/2
def zAS{x y:Int}(hx:¬zbq x)(hy:¬zbq y):256*(x.natAbs:Int)<=isq (65536*(x*x+y*y))/\256*(y.natAbs:Int)<=isq (65536*(x*x+y*y)):=by
 unfold zbq at hx hy;have h1:=ju (A:=2097152) (B:=2097152) (a:=x) (b:=x) oM oM;have h2:=ju (A:=2097152) (B:=2097152) (a:=y) (b:=y) oM oM;have h5:=ja x;have h6:=ja y;have e1:(x.natAbs:Int)*x.natAbs=x*x:=Int.natAbs_mul_self' x;have e2:(y.natAbs:Int)*y.natAbs=y*y:=Int.natAbs_mul_self' y;refine⟨zr4 oM oM ?_,zr4 oM oM ?_⟩
 ·rw[show 256*(x.natAbs:Int)*(256*(x.natAbs:Int))=65536*((x.natAbs:Int)*x.natAbs) by grind,e1];omega
 rw[show 256*(y.natAbs:Int)*(256*(y.natAbs:Int))=65536*((y.natAbs:Int)*y.natAbs) by grind,e2];omega
def zgF(v:Pt){w:Int}(hw:ki w):zgE w (z5 v w):=by
 unfold ki at hw;unfold z5
 split
 ·exact⟨by show((0:Int).natAbs:Int)<=_;simp;omega,by show((0:Int).natAbs:Int)<=_;simp;omega⟩
 rename_i h;rw[not_or,not_or,not_or]at h;have ab:=zAS h.2.1 h.2.2.1;have hL:0<=isq (65536*(v.x*v.x+v.y*v.y)):=oM;generalize isq (65536*(v.x*v.x+v.y*v.y))=L at*;have eL:(L.natAbs:Int)=L:=Jv hL;have wn:(w.natAbs:Int)=w:=Jv oM;refine⟨zmA oM ?_,zmA oM ?_⟩
 ·rw[QE,QE,Int.natAbs_neg,eL,X3,X3,wn];have:=Ju ab.2 (show 0<=w by omega);rw[show 2*((v.y.natAbs:Int)*w*((128:Int).natAbs:Nat))=w*(256*(v.y.natAbs:Int)) by simp;grind];exact this
 rw[QE,QE,eL,X3,X3,wn];have:=Ju ab.1 (show 0<=w by omega);rw[show 2*((v.x.natAbs:Int)*w*((128:Int).natAbs:Nat))=w*(256*(v.x.natAbs:Int)) by simp;grind];exact this
def zvo{r q:LU}(h:q∈kM r):q=r:=by
 unfold kM at h;split at h
 ·cases h
 exact Xu.1 h
section
variable{lo hi:Pt}{w m:Int}
end
def zqg{w:Int}{p:Pt}(h:zgE w p):zgE w (zhu p):=by unfold zgE zhu at*;dsimp only;omega
def zkC{a v b:Pt}{w:Int}(hw:ki w):zgE w (qp a v b w).1/\zgE w (qp a v b w).2.1:=by
 have z:zgE w zp:=by unfold ki at hw;exact⟨by show((0:Int).natAbs:Int)<=_;simp;omega,by show((0:Int).natAbs:Int)<=_;simp;omega⟩
 unfold qp
 split
 ·exact⟨z,z⟩
 dsimp only
 split
 ·exact⟨z,z⟩
 split
 ·exact⟨zqg (zgF _ hw),zqg (zgF _ hw)⟩
 exact⟨zgF _ hw,zgF _ hw⟩
def ztY{l:LU}{i:Nat}(h:i<l.length):nth l i∈l:=by
 unfold nth;rw[Xt,Xb h];exact KI h
def zfE{p:Pl}{z:Pt}(h:z∈(zt p).pts):z∈p.pts:=by
 unfold zt at h;dsimp only at h
 split at h
 ·exact zeq (zqb h)
 exact zeq h
def zx8{a b M:Int}(hb:0<b)(ha:0<=a)(h:a<=M*b):0<=z6 a b/\z6 a b<=M:=by
 obtain⟨Q,e⟩:∃Q:Nat,z6 a b=(Q:Int):=⟨_,by unfold z6;rw[Xe oM]⟩
 have hM:0<=M:=Jp.1 λk=>by
  have:=Int.mul_neg_of_neg_of_pos k hb;omega
 have h2:=zn3 (a:=a) (b:=b) (M:=M.toNat) oM (by
  have:((M.toNat*b.natAbs:Nat):Int)=M*b:=by rw[X3,Qj hM,Jv oM]
  omega)
 omega
def zx9{p:Pl}{z:Pt}(h:z∈zi p):z∈p.pts:=by
 unfold zi at h
 split at h
 ·rename_i c
  rcases Xs.1 h with h|h
  ·exact zfE h
  rw[Xu.1 h];exact zfE (ztY oM)
 exact zfE h
def zqh{p:Pl}(h:(zi p).length<2):zK p=0:=by
 unfold zK;rw[show(zi p).length-1=0 by omega];rfl
def zi3{w:Int}{p:Pt}(hw:ki w)(h:zgE w p):zr p:=by unfold ki at hw;unfold zgE at h;unfold zr;omega
def ztZ(n m:Pt)(w lim:Int):S50 (uU n m w lim).1.x/\S50 (uU n m w lim).1.y:=by
 unfold uU
 split
 ·exact⟨dC,dC⟩
 rename_i h;obtain⟨hn,hm,hw,_⟩:=Xa.1 h;have hs:=zhF hn hm;dsimp only
 split
 ·exact⟨dC,dC⟩
 generalize zw n m=s at*;have t:=zb9 hs.1 hw;have t':=zb9 hs.2 hw;exact⟨uV (M:=1125899906842624) oM,uV (M:=1125899906842624) oM⟩
def zt0{a v b:Pt}{p:Pen}(h:kC p/\zr a/\zr v/\zr b/\¬v=a/\¬v=b):qY a v b p=
  if p.j=3 then kM (vC v p.w) else if (qp a v b p.w).2.2=false then[]
  else kM (kE (if p.j=1/\(uU (qp a v b p.w).1 (qp a v b p.w).2.1 p.w p.m).2=true then[v,zw v (qp a v b p.w).1,zw v (uU (qp a v b p.w).1 (qp a v b p.w).2.1 p.w p.m).1,zw v (qp a v b p.w).2.1]
   else[v,zw v (qp a v b p.w).1,zw v (qp a v b p.w).2.1])):=by
 unfold qY;rw[kH h]
def zDP(a v b:Pt)(p:Pen):CX 380 [wk a,wk v,wk b,wr p] (.sl zk (qY a v b p)):=by
 refine zc func380 ?_
 have bad:¬(kC p/\zr a/\zr v/\zr b/\¬v=a/\¬v=b)->LE nS (.sl zk (qY a v b p)):=λh=>by
  unfold qY;rw[Xe h];exact zC
 refine wg (zep p)<|⟨λa1=>bad (λh=>a1 h.1),λa1=>?_⟩;refine wg (kY a)<|⟨λa2=>bad (λh=>a2 h.2.1),λa2=>?_⟩;refine wg (kY v)<|⟨λa3=>bad (λh=>a3 h.2.2.1),λa3=>?_⟩;refine wg (kY b)<|⟨λa4=>bad (λh=>a4 h.2.2.2.1),λa4=>?_⟩;refine⟨λa5=>bad (λh=>h.2.2.2.2.1 (qi.1 a5)),λa5=>?_⟩;refine⟨λa6=>bad (λh=>h.2.2.2.2.2 (qi.1 a6)),λa6=>?_⟩
 have hok:kC p/\zr a/\zr v/\zr b/\¬v=a/\¬v=b:=
  ⟨Xa.1 a1,Xa.1 a2,Xa.1 a3,Xa.1 a4,λe=>a5 (qi.2 e),λe=>a6 (qi.2 e)⟩
 have hv:=hok.2.2.1;have hw:=hok.1.1;have e:=zt0 hok;refine⟨λj1:p.j=3=>?_,λj1:¬p.j=3=>?_⟩
 ·exact wg (zsb v p.w)<|wg (zoa (vC v p.w))<|zZ (e.trans (Xe j1)).symm
 rw[Xc j1]at e;refine wg (zAF a v b p.w)<|⟨λk=>?_,λk=>?_⟩
 ·have k:¬(qp a v b p.w).2.2=true:=k;rw[Xe (by simpa using k)]at e;rw[e];exact zC
 have k:(qp a v b p.w).2.2=true:=Xa.1 k;rw[Xc (by rw[k];decide)]at e;have oh:=zkC (a:=a) (v:=v) (b:=b) hw;have o1:=zi3 hw oh.1;have o2:=zi3 hw oh.2;generalize (qp a v b p.w).1=n at*;generalize (qp a v b p.w).2.1=m at*;refine wd<|wg (zet v n hv.p45.s o1.p45.s)<|⟨Pt,ptE,[v,zw v n],rfl,wb0 ?_⟩;refine wh ?_
 have tail:∀(q:LU),(¬(p.j=1/\(uU n m p.w p.m).2=true))->q=[v,zw v n,zw v m]->LE (.sl zk (kM (kE q))) (.sl zk (qY a v b p)):=λq h hq=>by
  rw[e,Xc h,hq];exact .refl
 refine⟨λj2:p.j=1=>?_,λj2:¬p.j=1=>?_⟩
 ·refine wg (p_tip n m p.w p.m) ?_;have ht:=ztZ n m p.w p.m;refine⟨λs1=>?_,λs1=>?_⟩
  ·refine wg (zet v (uU n m p.w p.m).1 hv.p45.s ht)<|⟨Pt,ptE,[zw v (uU n m p.w p.m).1],rfl,wb0 ?_⟩;refine⟨[zw v (uU n m p.w p.m).1],rfl,wb8 ?_⟩;refine wg (zet v m hv.p45.s o2.p45.s)<|⟨Pt,ptE,[zw v m],rfl,wb0 ?_⟩;refine⟨[zw v m],rfl,wb22 ?_⟩;refine zb.see 11 _ (zbf [v,zw v n,zw v (uU n m p.w p.m).1,zw v m] (by show((4:Nat):Int)<=_;decide)) rfl rfl rfl<|wg (zoa (kE [v,zw v n,zw v (uU n m p.w p.m).1,zw v m])) ?_;rw[e,Xe ⟨j2,s1⟩];exact .refl
  refine wg (zet v m hv.p45.s o2.p45.s)<|⟨Pt,ptE,[zw v m],rfl,wb0 ?_⟩;refine⟨[zw v m],rfl,wb8 ?_⟩;exact zb.see 9 _ (zbf [v,zw v n,zw v m] (by show((3:Nat):Int)<=_;decide)) rfl rfl rfl<|wg (zoa (kE [v,zw v n,zw v m]))<|tail _ (λh=>s1 h.2) rfl
 refine wg (zet v m hv.p45.s o2.p45.s)<|⟨Pt,ptE,[zw v m],rfl,wb0 ?_⟩;refine⟨[zw v m],rfl,wb8 ?_⟩;exact zb.see 8 _ (zbf [v,zw v n,zw v m] (by show((3:Nat):Int)<=_;decide)) rfl rfl rfl<|wg (zoa (kE [v,zw v n,zw v m]))<|tail _ (λh=>j2 h.1) rfl
def zDQ(a v b:Pt)(p:Pen):CX 409 [wk a,wk v,wk b,wr p] (.sl zk (qY a v b p)):=by
 refine zc func409 ?_
 have bad:¬(kC p/\zr a/\zr v/\zr b/\¬v=a/\¬v=b)->LE nS (.sl zk (qY a v b p)):=λh=>by
  unfold qY;rw[Xe h];exact zC
 refine wg (zcJ p)<|⟨λa1=>bad (λh=>a1 h.1),λa1=>?_⟩;refine wg (z9 a)<|⟨λa2=>bad (λh=>a2 h.2.1),λa2=>?_⟩;refine wg (z9 v)<|⟨λa3=>bad (λh=>a3 h.2.2.1),λa3=>?_⟩;refine wg (z9 b)<|⟨λa4=>bad (λh=>a4 h.2.2.2.1),λa4=>?_⟩;refine⟨λa5=>bad (λh=>h.2.2.2.2.1 (qi.1 a5)),λa5=>?_⟩;refine⟨λa6=>bad (λh=>h.2.2.2.2.2 (qi.1 a6)),λa6=>?_⟩
 have hok:kC p/\zr a/\zr v/\zr b/\¬v=a/\¬v=b:=
  ⟨Xa.1 a1,Xa.1 a2,Xa.1 a3,Xa.1 a4,λe=>a5 (qi.2 e),λe=>a6 (qi.2 e)⟩
 have hv:=hok.2.2.1;have hw:=hok.1.1;have e:=zt0 hok
 have fin:∀(r:LU),qY a v b p=kM r->((r.length:Int)=0->LE nS (.sl zk (qY a v b p)))/\(¬(r.length:Int)=0->qY a v b p=[r]):=λr hr=>by
  refine⟨λh=>?_,λh=>?_⟩
  ·have:r=[]:=Xp oM;rw[hr,this];exact zC
  rw[hr];unfold kM;rw[Xc (λk=>h (by rw[k];rfl))]
 refine⟨λj1:p.j=3=>?_,λj1:¬p.j=3=>?_⟩
 ·refine wg (zsa v p.w) λhl=>?_;have f:=fin _ (e.trans (Xe j1));refine⟨λz=>f.1 z,λz=>?_⟩;refine⟨LU,zk,[vC v p.w],rfl,wb0 ?_⟩;exact zZ (f.2 z).symm
 rw[Xc j1]at e;refine wg (zAG a v b p.w)<|⟨λk=>?_,λk=>?_⟩
 ·have k:¬(qp a v b p.w).2.2=true:=k;rw[Xe (by simpa using k)]at e;rw[e];exact zC
 have k:(qp a v b p.w).2.2=true:=Xa.1 k;rw[Xc (by rw[k];decide)]at e;have oh:=zkC (a:=a) (v:=v) (b:=b) hw;have o1:=zi3 hw oh.1;have o2:=zi3 hw oh.2;generalize (qp a v b p.w).1=n at*;generalize (qp a v b p.w).2.1=m at*;refine wg (r_tip n m p.w p.m) ?_;have ht:=ztZ n m p.w p.m;have cn:=zxp v n;rw[zku hv o1]at cn;have cm:=zxp v m;rw[zku hv o2]at cm;refine wd<|wg cn<|⟨Pt,ptE,[v,zw v n],rfl,wb0 ?_⟩;refine wh ?_
 have plain:(¬(p.j=1/\(uU n m p.w p.m).2=true))->qY a v b p=kM (kE [v,zw v n,zw v m]):=λh=>by
  rw[e,Xc h]
 refine⟨λj2:p.j=1=>?_,λj2:¬p.j=1=>?_⟩
 ·refine⟨λs1=>?_,λs1=>?_⟩
  ·unfold zr at hv;(iterate 2 refine wa ?_);refine⟨Pt,ptE,[zw v (uU n m p.w p.m).1],rfl,wb0 ?_⟩;refine⟨[zw v (uU n m p.w p.m).1],rfl,wb8 ?_⟩;refine wg cm<|⟨Pt,ptE,[zw v m],rfl,wb0 ?_⟩;refine⟨[zw v m],rfl,wb22 ?_⟩;refine zb.see 11 _ (zbe [v,zw v n,zw v (uU n m p.w p.m).1,zw v m]) rfl rfl rfl λhl=>?_;have f:=fin (kE [v,zw v n,zw v (uU n m p.w p.m).1,zw v m]) (by rw[e,Xe ⟨j2,s1⟩]);refine⟨λz=>f.1 z,λz=>?_⟩;refine⟨LU,zk,[kE [v,zw v n,zw v (uU n m p.w p.m).1,zw v m]],rfl,wb0 ?_⟩
   exact zZ (f.2 z).symm
  refine wg cm<|⟨Pt,ptE,[zw v m],rfl,wb0 ?_⟩;refine⟨[zw v m],rfl,wb8 ?_⟩;refine zb.see 9 _ (zbe [v,zw v n,zw v m]) rfl rfl rfl λhl=>?_;have f:=fin (kE [v,zw v n,zw v m]) (plain λh=>s1 h.2);refine⟨λz=>f.1 z,λz=>?_⟩;refine⟨LU,zk,[kE [v,zw v n,zw v m]],rfl,wb0 ?_⟩;exact zZ (f.2 z).symm
 refine wg cm<|⟨Pt,ptE,[zw v m],rfl,wb0 ?_⟩;refine⟨[zw v m],rfl,wb8 ?_⟩;refine zb.see 9 _ (zbe [v,zw v n,zw v m]) rfl rfl rfl λhl=>?_;have f:=fin (kE [v,zw v n,zw v m]) (plain λh=>j2 h.1);refine⟨λz=>f.1 z,λz=>?_⟩;refine⟨LU,zk,[kE [v,zw v n,zw v m]],rfl,wb0 ?_⟩;exact zZ (f.2 z).symm
def zkD{l:LZ}{i:Nat}{x:Pl}(h:l[i]?=some x):uz (l.take (i+1))=uz (l.take i)++if 3<=x.pts.length then[x.pts] else[]:=by
 unfold uz;rw[Xl,h]
 by_cases c:3<=x.pts.length
 ·simp[c]
 simp[c]
def zqi(l:LZ):(uz l).length<=l.length:=by
 unfold uz;rw[Xx];exact KX _ _
def zya(l:LZ)(hl:l.length<=4096)(hp:∀q∈l,q.pts.length<=4096):CX 174 [.sl plE l] (.sl zk (uz l)):=by
 refine zc func174 λhl1=>?_;refine⟨Nat,λi=>⟨[(3,.own 0),(6,.sl plE l),(7,i64 l.length),(8,i64 i)],[(0,.arr 148 zk 1 (uz (l.take i)))],1,24,0⟩,λi=>i<=l.length,λi=>l.length-i,0,?_,?_,?_⟩
 ·exact Xh _
 ·exact zB [(0,none)]
 rintro i hi
 have hlen:=zqi (l.take i);rw[Xo]at hlen;refine⟨λg:(i:Int)<l.length=>?_,λg:¬(i:Int)<l.length=>?_⟩
 ·refine wb λx(hx:l[i]?=some x)=>?_;intro hl3;have e:=zkD hx;refine⟨λc:(3:Int)<=x.pts.length=>?_,λc:¬(3:Int)<=x.pts.length=>?_⟩
  ·refine wg ((zn7 x.pts (hp x (Xf hx))).plain rfl)<|⟨LU,zk,[x.pts],rfl,wb0 ?_⟩;refine⟨[x.pts],rfl,wb14 ?_⟩;refine wa<|⟨i+1,oM,zu [3] ⟨aR ?_,tV⟩,oN⟩;rw[e,Xe oM]
  refine wa<|⟨i+1,oM,zu [0] ⟨aR ?_,tV⟩,oN⟩;rw[e,Xc oM,XE]
 exact zZ (by rw[Xi oM])
def zyb(l:LZ)(hl:l.length<=4096)(hp:∀q∈l,q.pts.length<=4096):CX 155 [.sl plE l] (.sl zk (uz l)):=by
 refine zc func155<|⟨LU,zk,[],rfl,wb2 ?_⟩;refine⟨Nat,λi=>⟨[(3,.own 0),(0,.sl plE l),(4,i64 i)],[(0,.arr 148 zk 1 (uz (l.take i)))],1,29,0⟩,λi=>i<=l.length,λi=>l.length-i,0,?_,?_,?_⟩
 ·exact Xh _
 ·exact zf [0]
 rintro i hi
 have hlen:=zqi (l.take i);rw[Xo]at hlen;intro hl1;refine⟨λg:(i:Int)<l.length=>?_,λg:¬(i:Int)<l.length=>?_⟩
 ·refine wb λx(hx:l[i]?=some x)=>?_;intro hl3;have e:=zkD hx;refine⟨λc:(3:Int)<=x.pts.length=>?_,λc:¬(3:Int)<=x.pts.length=>?_⟩
  ·refine wb λy hy=>?_;have ey:y=x:=Xm ((show l[i]?=some y from hy).symm.trans hx);rw[ey];refine wg (zpQ x.pts (hp x (Xf hx)))<|⟨LU,zk,[x.pts],rfl,wb0 ?_⟩;refine⟨[x.pts],rfl,wb14 ?_⟩;refine wa<|⟨i+1,oM,zu [2] ⟨aR ?_,tV⟩,oN⟩;rw[e,Xe oM]
  refine wa<|⟨i+1,oM,zu [0] ⟨aR ?_,tV⟩,oN⟩;rw[e,Xc oM,XE]
 exact zZ (by rw[Xi oM])
abbrev wo(x:AF):SV:=.agg (afE x)
end Go.Gs
