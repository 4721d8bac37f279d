/- A path turned round, the other text; rectangles za paths; the law. -/
import Derived.Test.YtlckjbeknkkllaaGreatDoorMAK
set_option maxRecDepth 100000
set_option maxHeartbeats 8000000
set_option linter.all false
namespace Go.Gs
open Proofs.Tryz
open Go.Proofs
section
def inR(n:Int):Prop:= -4096<=n/\n<=4096
instance (n:Int):Decidable (inR n):=wi
def rok(a b c d:Int):Prop:=inR a/\inR b/\inR c/\inR d/\a<c/\b<d
instance (a b c d:Int):Decidable (rok a b c d):=wi
def jJ(a b c d:Int):LW:=if rok a b c d then[⟨1,⟨a*256,b*256⟩,zp,zp⟩,⟨2,⟨c*256,b*256⟩,zp,zp⟩,⟨2,⟨c*256,d*256⟩,zp,zp⟩,⟨2,⟨a*256,d*256⟩,zp,zp⟩,zjw] else[]
def reE(a b c d:Int):LQ:=[i64 a,i64 b,i64 c,i64 d]
def zN(n:Int):LQ:=[i64 n]
variable{α:Type}
def zEp{enc:α->LQ}:LE nS (.sl enc []):=λS Pm ρ w v hg=>by
 rw[hg.val_inv];exact .d _ _ (.nil enc none)
def zBb(a b c d:Int):CX 132 [.agg (reE a b c d)] (pr (¬rok a b c d)):=by
 refine zd func132<|⟨Int,zN,[a,b,c,d],rfl,wb0 ?_⟩;intro _
 refine⟨Nat,λi=>⟨[(15,i64 i),(14,i64 4),(13,.own 1),(1,.loc 0 0)],[(1,.arr 3 zN 1 [a,b,c,d]),(0,.box 54 (reE a b c d))],2,38,0⟩,
  λi=>i<=4/\∀(j:Nat) n,j<i->[a,b,c,d][j]?=some n->inR n,λi=>4-i,0,⟨oM,λj n hj=>by omega⟩,zi [0,1],?_⟩
 rintro i ⟨h1,h2⟩
 refine⟨λh3:(i:Int)<4=>?_,λh3:¬(i:Int)<4=>?_⟩
 ·refine Ob.mk ⟨oM,h3⟩<|Ob.mk ⟨oM,h3⟩ λn hn=>?_;have hn:[a,b,c,d][i]?=some n:=hn
  have out:¬inR n->¬rok a b c d:=λhr ⟨r1,r2,r3,r4,_⟩=>hr (by
   have:i=0∨i=1∨i=2∨i=3:=oM
   rcases this with rfl|rfl|rfl|rfl <;> (cases hn;assumption))
  refine⟨λh4=>zI (out λh=>by have:=h.1;omega),λh4=>?_⟩;refine⟨λh5=>zI (out λh=>by have:=h.2;omega),λh5=>?_⟩;refine wa ?_
  exact⟨i+1,⟨oM,λj m hj hm=>by
   by_cases e:j=i
   ·subst e;rw[hn]at hm;cases hm;exact⟨oM,oM⟩
   exact h2 j m oM hm⟩,zi [0,1],oN⟩
 have h0:=h2 0 a oM rfl;have h1:=h2 1 b oM rfl;have h4:=h2 2 c oM rfl;have h5:=h2 3 d oM rfl;refine⟨λh6=>zI λh=>by have:=h.2.2.2.2.1;omega,λh6=>?_⟩;refine zr ⟨λh7 h=>by have:=h.2.2.2.2.2;omega,λh=>?_⟩
 by_cases h8:d<=b
 ·exact h8
 exact absurd ⟨h0,h1,h4,h5,oM,oM⟩ h
def c_at(x y:Int)(hx:inR x)(hy:inR y):CX 133 [i64 x,i64 y] (wk ⟨x*256,y*256⟩):=by
 refine zd func133 ?_;unfold inR at hx hy;(iterate 2 refine wa ?_);exact .refl
def zrG(a b c d:Int):CX 95 [.agg (reE a b c d)] (.sl sgE (jJ a b c d)):=by
 refine zd func95 ?_;have fin:∀{L:LW} {s:SV},jJ a b c d=L->LE s (.sl sgE L)->LE s (.sl sgE (jJ a b c d)):=λe h=>e ▸ h
 refine wg (zBb a b c d)<|⟨λh=>fin (Xb h) zEp,λh=>?_⟩;have h:=Xc.1 h;have hL:=show jJ a b c d=_ from Xe h;obtain⟨h1,h2,h3,h4,_⟩:=h;refine wc<|wg (c_at a b h1 h2)<|wg (c_at c b h3 h2)<|wg (c_at c d h3 h4)<|wg (c_at a d h1 h4)<|⟨Sg,sgE,[⟨1,⟨a*256,b*256⟩,zp,zp⟩,⟨2,⟨c*256,b*256⟩,zp,zp⟩,⟨2,⟨c*256,d*256⟩,zp,zp⟩,⟨2,⟨a*256,d*256⟩,zp,zp⟩,zjw],(by kernel_rfl),wb0 ?_⟩;exact fin hL (kM rfl)
def znx(n:Int):CX 107 [i64 n] (pr (inR n)):=by
 refine zd func107 ?_;refine⟨λh=>zr ⟨λk=>⟨h,k⟩,λk=>k.2⟩,λh=>zc λk=>h k.1⟩
def zvd(a b c d:Int):CX 70 [.agg (reE a b c d)] (pr (inR a/\inR b/\inR c/\inR d)):=by
 refine zd func70<|wg (znx a)<|⟨λh1=>?_,λh1=>zc λk=>h1 k.1⟩;refine wg (znx b)<|⟨λh2=>?_,λh2=>zc λk=>h2 k.2.1⟩;refine wg (znx c)<|⟨λh3=>?_,λh3=>zc λk=>h3 k.2.2.1⟩;exact wg (znx d)<|zr ⟨λh4=>⟨h1,h2,h3,h4⟩,λk=>k.2.2.2⟩
def zx3(a b c d:Int):CX 43 [.agg (reE a b c d)] (pr (¬rok a b c d)):=by
 refine zd func43<|wg (zvd a b c d)<|⟨λh=>zI λk=>h ⟨k.1,k.2.1,k.2.2.1,k.2.2.2.1⟩,λh=>?_⟩;obtain⟨h0,h1,h4,h5⟩:=Xc.1 h;refine⟨λh6=>zI λh=>by have:=h.2.2.2.2.1;omega,λh6=>?_⟩;refine zr ⟨λh7 h=>by have:=h.2.2.2.2.2;omega,λh=>?_⟩
 by_cases h8:d<=b
 ·exact h8
 exact absurd ⟨h0,h1,h4,h5,oM,oM⟩ h
def zhD(a b c d:Int):CX 24 [.agg (reE a b c d)] (.sl sgE (jJ a b c d)):=by
 refine zd func24 ?_;have fin:∀{L:LW} {s:SV},jJ a b c d=L->LE s (.sl sgE L)->LE s (.sl sgE (jJ a b c d)):=λe h=>e ▸ h
 refine wg (zx3 a b c d)<|⟨λh=>?_,λh=>?_⟩
 ·refine⟨Sg,sgE,[],rfl,wb2 ?_⟩;exact fin (Xb h) .refl
 have h:=Xc.1 h;have hL:=show jJ a b c d=_ from Xe h;obtain⟨h1,h2,h3,h4,_⟩:=h;unfold inR at h1 h2 h3 h4;refine wd ?_;(iterate 4 refine wa ?_);refine wh<|⟨Sg,sgE,[⟨1,⟨a*256,b*256⟩,zp,zp⟩,⟨2,⟨c*256,b*256⟩,zp,zp⟩,⟨2,⟨c*256,d*256⟩,zp,zp⟩,⟨2,⟨a*256,d*256⟩,zp,zp⟩,zjw],(by kernel_rfl),wb0 ?_⟩;exact fin hL (kM rfl)
def yK(p:Pen):LQ:=[i64 p.w,i64 p.j,i64 p.c,i64 p.m,.sl zN p.d,i64 p.ph]
def zc7(l:LU)(i:Nat):Prop:=l=[]∨∃n∈l.take i,0<n
variable{i:Nat}{x:Int}
def zfO{l:LU}(h:l[i]?=some x):l.take (i+1)=l.take i++[x]:=by
 rw[Xm,h];rfl
def zb6{l:LU}(h:l[i]?=some x):zc7 l (i+1)↔zc7 l i∨0<x:=by
 unfold zc7;rw[zfO h];constructor
 ·rintro(h|⟨n,hn,h0⟩)
  ·exact .inl (.inl h)
  rcases Xr.1 hn with hn|hn
  ·exact .inl (.inr ⟨n,hn,h0⟩)
  rw[Xu]at hn;exact .inr (hn ▸ h0)
 rintro((h|⟨n,hn,h0⟩)|h)
 ·exact .inl h
 ·exact .inr ⟨n,KM _ hn,h0⟩
 exact .inr ⟨x,KF _ (Xu.2 rfl),h⟩
def ztq{l:LU}{i:Nat}(hi:l.length<=i)(ha:∀n∈l.take i,0<=n/\n<=1048576):vP l↔zc7 l i/\l.length%2=0/\(l.length:Int)<=16:=by
 rw[Xk hi]at ha;unfold vP zc7;rw[Xk hi];exact⟨λh=>h.2,λh=>⟨ha,h⟩⟩
def zfP{l:LU}(h:l[i]?=some x)(ha:∀n∈l.take i,0<=n/\n<=1048576)(hx:0<=x/\x<=1048576):∀n∈l.take (i+1),0<=n/\n<=1048576:=by
 rw[zfO h];intro n hn
 rcases Xr.1 hn with hn|hn
 ·exact ha n hn
 rw[Xu]at hn;exact hn ▸ hx
def zjx{l:LU}(h:l[i]?=some x)(hx:¬(0<=x/\x<=1048576)):¬vP l:=λk=>hx (k.1 x (Xf h))
def uN(l:LU):CX 328 [.sl zN l] (pr (vP l)):=by
 refine zd func328 λhl1=>?_;intro hl2;refine⟨Nat×Bool,λz=>⟨[(3,bl z.2),(11,i64 (z.1:Int)),(10,i64 l.length),(9,.sl zN l),(0,.sl zN l)],[],0,39,0⟩,λz=>z.1<=l.length/\(z.2=true↔zc7 l z.1)/\∀n∈l.take z.1,0<=n/\n<=1048576,λz=>l.length-z.1,(0,decide (l=[])),?_,?_,?_⟩
 ·refine⟨Xg _,?_,λn hn=>by cases hn⟩;show decide (l=[])=true↔_;unfold zc7;rw[decide_eq_true_iff];exact⟨.inl,λh=>h.elim id (λ⟨n,hn,_⟩=>by cases hn)⟩
 ·refine Sub.trans (jj (t:=3) (s':=bl (decide (l=[]))) rfl (zs1 ?_)) (qa [] rfl rfl rfl ⟨rfl,rfl,rfl,rfl,rfl,tV⟩ trivial);rw[decide_eq_true_iff,←XN];omega
 rintro⟨i,b⟩ ⟨h1,h2,h3⟩
 dsimp only at h1 h2 h3;refine⟨λg:(i:Int)<l.length=>?_,λg:¬(i:Int)<l.length=>?_⟩
 ·refine wb λx hx=>?_;refine⟨λa1=>zc (zjx hx oM),λa1=>?_⟩;refine⟨λa2=>zc (zjx hx oM),λa2=>?_⟩;have hx:l[i]?=some x:=hx
  cases b with
  |true=>
   refine wa<|⟨(i+1,true),⟨oN,?_,zfP hx h3 oM⟩,zA [],oN⟩;exact⟨λ_=>(zb6 hx).2 (.inl (h2.1 rfl)),λ_=>rfl⟩
  |false=>
   refine wa<|⟨(i+1,decide (0<x)),⟨oN,?_,zfP hx h3 oM⟩,Sub.trans (jj (t:=3) (s':=bl (decide (0<x))) rfl (zs1 ?_)) (qa [] rfl rfl rfl ⟨rfl,rfl,rfl,rfl,rfl,tV⟩ trivial),oN⟩
   ·show decide (0<x)=true↔zc7 l (i+1);rw[decide_eq_true_iff,zb6 (show l[i]?=some x from hx)];exact⟨.inr,λh=>h.elim (λk=>by have:=h2.2 k;cases this) id⟩
   rw[decide_eq_true_iff]
 have hd:=ztq (l:=l) (i:=i) oM h3
 cases b with
 |false=>
  exact zc (λk=>by have:=h2.2 (hd.1 k).1;cases this)
 |true=>
  intro hl3;refine Dv.pos ⟨oM,oM⟩<|⟨λa1=>?_,λa1=>zc (λk=>a1 (by have:=(hd.1 k).2.1;omega))⟩;intro hl4;exact zr ⟨λk=>hd.2 ⟨h2.1 rfl,oM,k⟩,λk=>(hd.1 k).2.2⟩
def zx4(l:LU):CX 246 [.sl zN l] (pr (vP l)):=by
 refine zd func246 λhl1=>?_;refine⟨Nat×Bool,λz=>⟨[(3,bl z.2),(4,i64 (z.1:Int)),(0,.sl zN l)],[],0,40,0⟩,λz=>z.1<=l.length/\(z.2=true↔zc7 l z.1)/\∀n∈l.take z.1,0<=n/\n<=1048576,λz=>l.length-z.1,(0,decide (l=[])),?_,?_,?_⟩
 ·refine⟨Xg _,?_,λn hn=>by cases hn⟩;show decide (l=[])=true↔_;unfold zc7;rw[decide_eq_true_iff];exact⟨.inl,λh=>h.elim id (λ⟨n,hn,_⟩=>by cases hn)⟩
 ·refine Sub.trans (jj (t:=3) (s':=bl (decide (l=[]))) rfl (zs1 ?_)) (qa [] rfl rfl rfl ⟨rfl,rfl,rfl,tV⟩ trivial);rw[decide_eq_true_iff,←XN];omega
 rintro⟨i,b⟩ ⟨h1,h2,h3⟩
 dsimp only at h1 h2 h3;intro hl2;refine⟨λg:(i:Int)<l.length=>?_,λg:¬(i:Int)<l.length=>?_⟩
 ·refine wb λx hx=>wg (zbu x 0 1048576)<|⟨λa1=>zc (zjx hx a1),λa1=>?_⟩;have a1:0<=x/\x<=1048576:=Xc.1 a1;have hx:l[i]?=some x:=hx
  cases b with
  |true=>
   refine wa<|⟨(i+1,true),⟨oN,?_,zfP hx h3 a1⟩,zA [],oN⟩;exact⟨λ_=>(zb6 hx).2 (.inl (h2.1 rfl)),λ_=>rfl⟩
  |false=>
   refine wb λy(hy:l[i]?=some y)=>?_;have e:x=y:=Xl ((show l[i]?=some x from hx).symm.trans hy);subst e;refine wa<|⟨(i+1,decide (0<x)),⟨oN,?_,zfP hx h3 a1⟩,Sub.trans (jj (t:=3) (s':=bl (decide (0<x))) rfl (zs1 ?_)) (qa [] rfl rfl rfl ⟨rfl,rfl,rfl,tV⟩ trivial),oN⟩
   ·show decide (0<x)=true↔zc7 l (i+1);rw[decide_eq_true_iff,zb6 (show l[i]?=some x from hx)];exact⟨.inr,λh=>h.elim (λk=>by have:=h2.2 k;cases this) id⟩
   rw[decide_eq_true_iff]
 have hd:=ztq (l:=l) (i:=i) oM h3
 cases b with
 |false=>
  exact zc (λk=>by have:=h2.2 (hd.1 k).1;cases this)
 |true=>
  intro hl3;refine⟨λa1=>?_,λa1=>zc (λk=>a1 (hd.1 k).2.2)⟩;intro hl4;exact Dv.pos ⟨oM,oM⟩<|zr ⟨λk=>hd.2 ⟨h2.1 rfl,oM,a1⟩,λk=>by have:=(hd.1 k).2.1;omega⟩
def zhE(p:Pen):kV p↔((1<=p.w/\p.w<=16384)/\(p.j=1∨p.j=2∨p.j=3)/\(p.c=3∨p.c=4∨p.c=5)/\(256<=p.m/\p.m<=65536)/\(0<=p.ph/\p.ph<=1048576))/\vP p.d:=by
 unfold kV kg;exact⟨λh=>⟨⟨h.1,h.2.1,h.2.2.1,h.2.2.2.1,h.2.2.2.2.2⟩,h.2.2.2.2.1⟩,λh=>⟨h.1.1,h.1.2.1,h.1.2.2.1,h.1.2.2.2.1,h.2,h.1.2.2.2.2⟩⟩
def zBc(p:Pen):CX 174 [.agg (yK p)] (pr (kV p)):=by
 have hp:=zhE p;refine zd func174<|wg (zBa p.w)<|⟨λa1=>zc (λk=>a1 (hp.1 k).1.1),λa1=>?_⟩;refine wg (zbu p.j 1 3)<|⟨λa2=>zc (λk=>by have:=(hp.1 k).1;omega),λa2=>?_⟩;refine wg (zbu p.c 3 5)<|⟨λa3=>zc (λk=>by have:=(hp.1 k).1;omega),λa3=>?_⟩;refine wg (zbu p.m 256 65536)<|⟨λa4=>?_,λa4=>zc (λk=>by have:=(hp.1 k).1;omega)⟩;refine wg (zx4 p.d)<|⟨λa5=>?_,λa5=>zc (λk=>a5 (hp.1 k).2)⟩
 exact wg (zbu p.ph 0 1048576)<|zr ⟨λk=>hp.2 ⟨by unfold kg at a1;omega,a5⟩,λk=>by have:=(hp.1 k).1;omega⟩
def zdV(p:Pen):CX 264 [.agg (yK p)] (pr (kV p)):=by
 have hp:=zhE p;refine zd func264<|Br.mk (λj1=>?_) (λj1=>?_)
 ·
  refine⟨λc1=>?_,λc1=>?_⟩
  ·
   refine wg (ve p.w)<|⟨λw1=>?_,λw1=>zc (λk=>w1 (hp.1 k).1.1)⟩;refine⟨λm1=>?_,λm1=>zc (λk=>by have:=(hp.1 k).1;omega)⟩;refine⟨λm2=>?_,λm2=>zc (λk=>by have:=(hp.1 k).1;omega)⟩;refine wg (uN p.d)<|⟨λd1=>?_,λd1=>zc (λk=>d1 (hp.1 k).2)⟩;refine⟨λp1=>?_,λp1=>zc (λk=>by have:=(hp.1 k).1;omega)⟩;exact zr ⟨λk=>hp.2 ⟨by unfold kg at w1;omega,d1⟩,λk=>by have:=(hp.1 k).1;omega⟩
  refine⟨λc2=>?_,λc2=>?_⟩
  ·
   refine wg (ve p.w)<|⟨λw1=>?_,λw1=>zc (λk=>w1 (hp.1 k).1.1)⟩;refine⟨λm1=>?_,λm1=>zc (λk=>by have:=(hp.1 k).1;omega)⟩;refine⟨λm2=>?_,λm2=>zc (λk=>by have:=(hp.1 k).1;omega)⟩;refine wg (uN p.d)<|⟨λd1=>?_,λd1=>zc (λk=>d1 (hp.1 k).2)⟩;refine⟨λp1=>?_,λp1=>zc (λk=>by have:=(hp.1 k).1;omega)⟩;exact zr ⟨λk=>hp.2 ⟨by unfold kg at w1;omega,d1⟩,λk=>by have:=(hp.1 k).1;omega⟩
  refine wg (ve p.w)<|⟨λw1=>?_,λw1=>zc (λk=>w1 (hp.1 k).1.1)⟩;refine⟨λc3=>?_,λc3=>zc (λk=>by have:=(hp.1 k).1;omega)⟩;refine⟨λm1=>?_,λm1=>zc (λk=>by have:=(hp.1 k).1;omega)⟩;refine⟨λm2=>?_,λm2=>zc (λk=>by have:=(hp.1 k).1;omega)⟩;refine wg (uN p.d)<|⟨λd1=>?_,λd1=>zc (λk=>d1 (hp.1 k).2)⟩;refine⟨λp1=>?_,λp1=>zc (λk=>by have:=(hp.1 k).1;omega)⟩
  exact zr ⟨λk=>hp.2 ⟨by unfold kg at w1;omega,d1⟩,λk=>by have:=(hp.1 k).1;omega⟩
 refine⟨λj2=>?_,λj2=>?_⟩
 ·
  refine⟨λc1=>?_,λc1=>?_⟩
  ·
   refine wg (ve p.w)<|⟨λw1=>?_,λw1=>zc (λk=>w1 (hp.1 k).1.1)⟩;refine⟨λm1=>?_,λm1=>zc (λk=>by have:=(hp.1 k).1;omega)⟩;refine⟨λm2=>?_,λm2=>zc (λk=>by have:=(hp.1 k).1;omega)⟩;refine wg (uN p.d)<|⟨λd1=>?_,λd1=>zc (λk=>d1 (hp.1 k).2)⟩;refine⟨λp1=>?_,λp1=>zc (λk=>by have:=(hp.1 k).1;omega)⟩;exact zr ⟨λk=>hp.2 ⟨by unfold kg at w1;omega,d1⟩,λk=>by have:=(hp.1 k).1;omega⟩
  refine⟨λc2=>?_,λc2=>?_⟩
  ·
   refine wg (ve p.w)<|⟨λw1=>?_,λw1=>zc (λk=>w1 (hp.1 k).1.1)⟩;refine⟨λm1=>?_,λm1=>zc (λk=>by have:=(hp.1 k).1;omega)⟩;refine⟨λm2=>?_,λm2=>zc (λk=>by have:=(hp.1 k).1;omega)⟩;refine wg (uN p.d)<|⟨λd1=>?_,λd1=>zc (λk=>d1 (hp.1 k).2)⟩;refine⟨λp1=>?_,λp1=>zc (λk=>by have:=(hp.1 k).1;omega)⟩;exact zr ⟨λk=>hp.2 ⟨by unfold kg at w1;omega,d1⟩,λk=>by have:=(hp.1 k).1;omega⟩
  refine wg (ve p.w)<|⟨λw1=>?_,λw1=>zc (λk=>w1 (hp.1 k).1.1)⟩;refine⟨λc3=>?_,λc3=>zc (λk=>by have:=(hp.1 k).1;omega)⟩;refine⟨λm1=>?_,λm1=>zc (λk=>by have:=(hp.1 k).1;omega)⟩;refine⟨λm2=>?_,λm2=>zc (λk=>by have:=(hp.1 k).1;omega)⟩;refine wg (uN p.d)<|⟨λd1=>?_,λd1=>zc (λk=>d1 (hp.1 k).2)⟩;refine⟨λp1=>?_,λp1=>zc (λk=>by have:=(hp.1 k).1;omega)⟩
  exact zr ⟨λk=>hp.2 ⟨by unfold kg at w1;omega,d1⟩,λk=>by have:=(hp.1 k).1;omega⟩
 refine⟨λc1=>?_,λc1=>?_⟩
 ·
  refine wg (ve p.w)<|⟨λw1=>?_,λw1=>zc (λk=>w1 (hp.1 k).1.1)⟩;refine⟨λj3=>?_,λj3=>zc (λk=>by have:=(hp.1 k).1;omega)⟩;refine⟨λm1=>?_,λm1=>zc (λk=>by have:=(hp.1 k).1;omega)⟩;refine⟨λm2=>?_,λm2=>zc (λk=>by have:=(hp.1 k).1;omega)⟩;refine wg (uN p.d)<|⟨λd1=>?_,λd1=>zc (λk=>d1 (hp.1 k).2)⟩;refine⟨λp1=>?_,λp1=>zc (λk=>by have:=(hp.1 k).1;omega)⟩
  exact zr ⟨λk=>hp.2 ⟨by unfold kg at w1;omega,d1⟩,λk=>by have:=(hp.1 k).1;omega⟩
 refine⟨λc2=>?_,λc2=>?_⟩
 ·
  refine wg (ve p.w)<|⟨λw1=>?_,λw1=>zc (λk=>w1 (hp.1 k).1.1)⟩;refine⟨λj3=>?_,λj3=>zc (λk=>by have:=(hp.1 k).1;omega)⟩;refine⟨λm1=>?_,λm1=>zc (λk=>by have:=(hp.1 k).1;omega)⟩;refine⟨λm2=>?_,λm2=>zc (λk=>by have:=(hp.1 k).1;omega)⟩;refine wg (uN p.d)<|⟨λd1=>?_,λd1=>zc (λk=>d1 (hp.1 k).2)⟩;refine⟨λp1=>?_,λp1=>zc (λk=>by have:=(hp.1 k).1;omega)⟩
  exact zr ⟨λk=>hp.2 ⟨by unfold kg at w1;omega,d1⟩,λk=>by have:=(hp.1 k).1;omega⟩
 refine wg (ve p.w)<|⟨λw1=>?_,λw1=>zc (λk=>w1 (hp.1 k).1.1)⟩;refine⟨λj3=>?_,λj3=>zc (λk=>by have:=(hp.1 k).1;omega)⟩;refine⟨λc3=>?_,λc3=>zc (λk=>by have:=(hp.1 k).1;omega)⟩;refine⟨λm1=>?_,λm1=>zc (λk=>by have:=(hp.1 k).1;omega)⟩;refine⟨λm2=>?_,λm2=>zc (λk=>by have:=(hp.1 k).1;omega)⟩;refine wg (uN p.d)<|⟨λd1=>?_,λd1=>zc (λk=>d1 (hp.1 k).2)⟩
 refine⟨λp1=>?_,λp1=>zc (λk=>by have:=(hp.1 k).1;omega)⟩;exact zr ⟨λk=>hp.2 ⟨by unfold kg at w1;omega,d1⟩,λk=>by have:=(hp.1 k).1;omega⟩
abbrev S50(n:Int):Prop:= -1125899906842624<=n/\n<=1125899906842624
def zjy(p q:Pt)(hp:S50 p.x/\S50 p.y)(hq:S50 q.x/\S50 q.y):CX 449 [wk p,wk q] (wk (zC p q)):=by
 refine zd func449 ?_;(iterate 2 refine wa ?_);exact .refl
def zeU(p q:Pt)(hp:S50 p.x/\S50 p.y)(hq:S50 q.x/\S50 q.y):CX 450 [wk p,wk q] (wk (zS p q)):=by
 refine zd func450 ?_;(iterate 2 refine wa ?_);exact .refl
def zlI{v:Pt}{w:Int}(hw:kg w)(hx:¬zfN v.x)(hy:¬zfN v.y):
  (0<=v.x*v.x/\v.x*v.x<=4398046511104)/\(0<=v.y*v.y/\v.y*v.y<=4398046511104)/\
  (-34359738368<=v.x*w/\v.x*w<=34359738368)/\(-34359738368<= -v.y*w/\ -v.y*w<=34359738368)/\
  (0<=isq (65536*(v.x*v.x+v.y*v.y))/\isq (65536*(v.x*v.x+v.y*v.y))<4294967296):=by
 unfold zfN at hx hy;unfold kg at hw;have h1:=jh (A:=2097152) (B:=2097152) (a:=v.x) (b:=v.x) oM oM;have h2:=jh (A:=2097152) (B:=2097152) (a:=v.y) (b:=v.y) oM oM;have h3:=jh (A:=2097152) (B:=16384) (a:=v.x) (b:=w) oM oM;have h4:=jh (A:=2097152) (B:=16384) (a:= -v.y) (b:=w) oM oM;have h5:=j9 v.x;have h6:=j9 v.y;have h7:=zfL (n:=65536*(v.x*v.x+v.y*v.y)) oM oM;have h8:=zxP (n:=65536*(v.x*v.x+v.y*v.y)) oM oM;exact⟨oM,oM,oM,oM,h7.1,h8⟩
def zgU(v:Pt)(w:Int):(-4398046511104<=(kT v w).x/\(kT v w).x<=4398046511104)/\(-4398046511104<=(kT v w).y/\(kT v w).y<=4398046511104):=by
 unfold kT
 split
 ·exact⟨⟨dC,dC⟩,⟨dC,dC⟩⟩
 rename_i h;rw[not_or,not_or,not_or]at h;have hf:=zlI (Xc.1 h.1) h.2.1 h.2.2.1;exact⟨ug (M:=4398046511104) oM,ug (M:=4398046511104) oM⟩
def zjz(v:Pt)(w:Int):CX 485 [wk v,i64 w] (wk (kT v w)):=by
 refine zd func485 ?_
 have bad:(¬kg w∨zfN v.x∨zfN v.y∨v=zp)->LE (wk zp) (wk (kT v w)):=λh=>by
  unfold kT;rw[Xe h];exact .refl
 refine wg (ve w)<|⟨λa1=>bad (.inl a1),λa1=>?_⟩;refine wg (zDh v.x)<|⟨λa2=>bad (.inr (.inl a2)),λa2=>?_⟩;refine wg (zDh v.y)<|⟨λa3=>bad (.inr (.inr (.inl a3))),λa3=>?_⟩;refine⟨λa4=>bad (.inr (.inr (.inr (qU.1 a4)))),λa4=>?_⟩;have a1:=Xc.1 a1;have hf:=zlI a1 a2 a3;have a4:¬v=zp:=λh=>a4 (qU.2 h)
 (iterate 5 refine wa ?_);refine wg (zxV (65536*(v.x*v.x+v.y*v.y)) oM)<|wa<|wc ?_;unfold kg at a1;unfold zfN at a2 a3;(iterate 3 refine wa ?_);refine wg (ud (-v.y*w*128) (isq (65536*(v.x*v.x+v.y*v.y))) ⟨oM,oM⟩ ⟨oM,oM⟩) ?_;rw[zbt oM];(iterate 2 refine wa ?_);refine wg (ud (v.x*w*128) (isq (65536*(v.x*v.x+v.y*v.y))) ⟨oM,oM⟩ ⟨oM,oM⟩) ?_;rw[zbt oM];unfold kT
 rw[Xb (by unfold kg zfN;intro h;rcases h with h|h|h|h <;> first|exact a4 h|omega)];exact .refl
structure Pl where
 pts:LR
 cl:Bool
def plE(q:Pl):LQ:=[.sl ptE q.pts,pr (q.cl=true)]
def zE(r:LR):LQ:=[.sl ptE r]
def jp:LR->LR
 |[]=>[]
 |p::r=>match r with
  |[]=>[p]
  |q::_=>if p=q then jp r else p::jp r
def qi(l:LR):LR:=if 1<l.length/\l.getLast?=l.head? then l.dropLast else l
def zL(p:Pl):Pl:=⟨if p.cl then qi (jp p.pts) else jp p.pts,p.cl⟩
def yd:LR->Prop
 |[]=>True
 |p::r=>(∀q,r.head?=some q->p≠q)/\yd r
def zjA:∀l:LR,(jp l).head?=l.head?
 |[]=>rfl
 |[p]=>rfl
 |p::q::r=>by
  unfold jp;dsimp only
  split
  ·rename_i h;rw[zjA (q::r),h];rfl
  rfl
def zc8:∀l:LR,yd (jp l)
 |[]=>trivial
 |[p]=>⟨λ_ h=>(by cases h),tV⟩
 |p::q::r=>by
  unfold jp;dsimp only
  split
  ·exact zc8 (q::r)
  rename_i h;refine⟨λz hz=>?_,zc8 (q::r)⟩;rw[zjA]at hz
  cases hz
  exact h
def nth(l:LR)(i:Nat):Pt:=l.getD i zp
def jG(p:Pl)(pen:Pen):LN:=
 ((List.range (p.pts.length-1)).flatMap λi=>qH (uy (nth p.pts i) (nth p.pts (i+1)) pen.w))++
 (if p.cl/\1<p.pts.length then qH (uy (nth p.pts (p.pts.length-1)) (nth p.pts 0) pen.w) else[])
def zjB(p:Pl)(pen:Pen):LN:=
 if p.pts.length<=1 then[] else
 (List.range p.pts.length).flatMap λi=>if¬p.cl=true/\(i=0∨i=p.pts.length-1) then[]
  else uY (nth p.pts ((i+p.pts.length-1)%p.pts.length)) (nth p.pts i) (nth p.pts ((i+1)%p.pts.length)) pen
def zbg(a b:Pt)(pen:Pen):LR:=if pen.c=5 then zrE a b pen.w else if pen.c=3 then zcw b pen.w else[]
def zeV(p:Pt)(pen:Pen):LR:=if pen.c=5 then zjv p pen.w else if pen.c=3 then zcw p pen.w else[]
def zc9(p:Pl)(pen:Pen):LN:=
 if p.pts.length=1 then qH (zeV (nth p.pts 0) pen)
 else if 1<p.pts.length/\¬p.cl=true then qH (zbg (nth p.pts 1) (nth p.pts 0) pen)++qH (zbg (nth p.pts (p.pts.length-2)) (nth p.pts (p.pts.length-1)) pen) else[]
def qq(p:Pl)(pen:Pen):LN:=jG p pen++zjB p pen++zc9 p pen
def qx(l:LN):Nat:=(l.map List.length).sum
def qg(p:Pl)(pen:Pen):LN×Int:=
 if¬kV pen then([],13) else if¬∀q∈p.pts,zm q then([],6) else if 4096<p.pts.length then([],5)
 else if¬∀r∈qq (zL p) pen,∀q∈r,zm q then([],6) else if 4096<qx (qq (zL p) pen) then([],5) else(qq (zL p) pen,0)
def qr:List Pl->Pen->LN×Int
 |[],_=>([],0)
 |p::r,pen=>if (qg p pen).2≠0 then([],(qg p pen).2)
  else if (qr r pen).2≠0 then([],(qr r pen).2) else((qg p pen).1++(qr r pen).1,0)
def jz(l:List Pl)(pen:Pen):LN×Int:=
 if¬kV pen then([],13) else if (qr l pen).2≠0 then([],(qr l pen).2) else if 4096<qx (qr l pen).1 then([],5) else((qr l pen).1,0)
def za2(a b c:Pt):Int:=(a.x-2*b.x+c.x)*(a.x-2*b.x+c.x)+(a.y-2*b.y+c.y)*(a.y-2*b.y+c.y)
def enough(need tol:Int)(n:Nat):Prop:=need<=16*n*n*n*n*tol*tol
instance (need tol:Int) (n:Nat):Decidable (enough need tol n):=inferInstanceAs (Decidable (_<=_))
def vh(need tol:Int):Nat->Nat->Int×Int
 |0,_=>(0,11)
 |k+1,n=>if enough need tol n then(n,0) else vh need tol k (n+1)
def jA(need tol:Int)(l:LR):Int×Int:=if¬(1<=tol/\tol<=256) then(0,2) else if¬∀p∈l,zm p then(0,6) else vh need tol 64 1
def yU(a b c:Pt)(tol:Int):Int×Int:=jA (za2 a b c) tol [a,b,c]
def yV(a b c d:Pt)(tol:Int):Int×Int:=jA (9*max (za2 a b c) (za2 b c d)) tol [a,b,c,d]
def zve(l:LR)(i n:Int):Prop:=(∀p∈l,zm p)/\1<=n/\n<=64/\0<=i/\i<=n
instance (l:LR) (i n:Int):Decidable (zve l i n):=wi
def q1(i n a b c:Int):Int:=zfM ((n-i)*(n-i)*a+2*i*(n-i)*b+i*i*c) (n*n)
def zaD(a b c:Pt)(i n:Int):Pt:=if¬zve [a,b,c] i n then zp else⟨q1 i n a.x b.x c.x,q1 i n a.y b.y c.y⟩
def c1(i n a b c d:Int):Int:=zfM ((n-i)*(n-i)*(n-i)*a+3*i*(n-i)*(n-i)*b+3*i*i*(n-i)*c+i*i*i*d) (n*n*n)
def zaE(a b c d:Pt)(i n:Int):Pt:=if¬zve [a,b,c,d] i n then zp else⟨c1 i n a.x b.x c.x d.x,c1 i n a.y b.y c.y d.y⟩
def zfQ(f:Int->Pt)(n:Nat):LR:=(List.range n).map λ(i:Nat)=>f ((i:Int)+1)
def zda(a b c:Pt)(tol:Int):LR×Int:=if (yU a b c tol).2≠0 then([],(yU a b c tol).2) else(zfQ (λi=>zaD a b c i (yU a b c tol).1) (yU a b c tol).1.toNat,0)
def zdb(a b c d:Pt)(tol:Int):LR×Int:=if (yV a b c d tol).2≠0 then([],(yV a b c d tol).2) else(zfQ (λi=>zaE a b c d i (yV a b c d tol).1) (yV a b c d tol).1.toNat,0)
def kE(rs:LN):Prop:=(qx rs:Int)<=4096/\∀r∈rs,∀p∈r,zm p
instance (rs:LN):Decidable (kE rs):=wi
def zlJ(r:LR):kE [r]↔znt r:=by
 unfold kE znt qx;simp
def zhF(xs:LR):Int:=match xs.findIdx? (λp=>decide (¬zm p)) with
 |some i=>i
 |none=> -1
def zpj{xs:LR}{i:Nat}{p:Pt}(h:∀(j:Nat) q,j<i->xs[j]?=some q->zm q)(hi:xs[i]?=some p)(hp:¬zm p):zhF xs=i:=by
 have:xs.findIdx? (λp=>decide (¬zm p))=some i:=by
  rw[KP];obtain⟨hl,he⟩:=Xd.1 hi;refine⟨hl,by simp[he,hp],λj hj=>?_⟩;have:=h j xs[j] hj (Xa _);simp[this]
 simp only[zhF,this]
variable{xs:LR}
def zeW(h:∀p∈xs,zm p):zhF xs= -1:=by
 have:xs.findIdx? (λp=>decide (¬zm p))=none:=by
  rw[KA];intro p hp;simp[h p hp]
 simp only[zhF,this]
def zfR:0<=zhF xs↔¬∀p∈xs,zm p:=by
 constructor
 ·intro h hall;rw[zeW hall]at h;omega
 intro h;unfold zhF
 split
 ·omega
 rename_i hn;rw[KA]at hn;exact absurd (λp hp=>by simpa using hn p hp) h
def zx5(p:Pt):CX 180 [wk p] (pr (¬zm p)):=by
 exact zd func180<|wg (kC p)<|zr Qd
def zBd(xs:LR):CX 254 [.sl ptE xs,.fn 180 []] (i64 (zhF xs)):=by
 refine zd func254 λhl0=>?_;refine⟨Int,λi=>⟨[(8,i64 i),(7,i64 xs.length),(0,.sl ptE xs),(1,.fn 180 [])],[],0,19,0⟩,λi=>0<=i/\i<=xs.length/\∀(j:Nat) q,(j:Int)<i->xs[j]?=some q->zm q,λi=>((xs.length:Int)-i).toNat,0,?_,?_,?_⟩
 ·exact⟨oM,oM,λj q hj=>by omega⟩
 ·exact zA []
 rintro i ⟨h1,h2,h3⟩
 refine⟨λh4=>?_,λh4=>?_⟩
 ·refine wb λx hx=>wg (zx5 x)<|⟨λh5=>?_,λh5=>?_⟩
  ·refine zh ?_;rw[zpj (i:=i.toNat) (λj q hj=>h3 j q oM) hx h5];omega
  refine wa<|⟨i+1,⟨oM,oM,λj q hj hq=>?_⟩,zA [],oN⟩
  by_cases e:j=i.toNat
  ·subst e;rw[hx]at hq;cases hq;exact Xc.1 h5
  exact h3 j q oM hq
 refine zh (zeW λp hp=>?_).symm;obtain⟨j,hj,he⟩:=Kn hp;exact h3 j p oM (by rw[←he];exact Xa hj)
def zrH(xs:LR):CX 179 [.sl ptE xs,.fn 180 []] (pr (¬∀p∈xs,zm p)):=by
 exact zd func179<|wg (zBd xs)<|zr zfR
def zae{rs:LN}{i:Nat}{r:LR}(h:rs[i]?=some r):qx (rs.take (i+1))=qx (rs.take i)+r.length:=by
 unfold qx;rw[Xm,h];simp
def zb7(rs:LN)(i:Nat):qx (rs.take i)<=qx rs:=by
 unfold qx
 conv=>rhs;rw[←KG i rs]
 rw[XG,QP];omega
variable{r:LR}
def zjC{rs:LN}(h:rs[i]?=some r)(ha:∀q∈rs.take i,∀p∈q,zm p)(hr:∀p∈r,zm p):∀q∈rs.take (i+1),∀p∈q,zm p:=by
 rw[Xm,h];intro q hq
 rcases Xr.1 hq with hq|hq
 ·exact ha q hq
 rw[QM,Xu]at hq;exact hq ▸ hr
def zfS(rs:LN)(hs:∀r∈rs,(r.length:Int)<=9223372036854771711):CX 125 [.sl zE rs] (pr (kE rs)):=by
 refine zd func125 λhl1=>?_;refine⟨Nat,λi=>⟨[(3,i64 (qx (rs.take i):Int)),(8,i64 i),(7,i64 rs.length),(6,.sl zE rs)],[],0,23,0⟩,λi=>i<=rs.length/\(qx (rs.take i):Int)<=4096/\∀q∈rs.take i,∀p∈q,zm p,λi=>rs.length-i,0,?_,?_,?_⟩
 ·exact⟨Xg _,by show((0:Nat):Int)<=4096;decide,λq hq=>by cases hq⟩
 ·exact zA []
 rintro i ⟨h1,h2,h3⟩
 refine⟨λg=>?_,λg=>?_⟩
 ·refine wb λr(hr:rs[i]?=some r)=>?_;have hrl:=hs r (Xf hr);have hc:=zae hr;have hcl:=zb7 rs (i+1);intro hl2;refine wa<|Br.mk (λa1=>zc (λk=>by have:=k.1;omega)) (λa1=>?_);refine wg (zrH r)<|⟨λa2=>zc (λk=>a2 (k.2 r (Xf hr))),λa2=>?_⟩;refine wa ?_;have e:(qx (rs.take i):Int)+(r.length:Int)=((qx (rs.take (i+1)):Nat):Int):=oM;refine⟨i+1,⟨oM,oM,zjC hr h3 (Xc.1 a2)⟩,?_,oN⟩;dsimp only;rw[←e]
  exact zA []
 rw[Xk oM]at h2 h3;exact zI ⟨h2,h3⟩
def zEq(n:Int)(p q:Pt)(hn: -4611686018427387904<=n/\n<=4611686018427387904):
  CG0 502 [wk p,wk q,.loc 0 0] [(0,.box 3 [i64 n])] (.tup []) [(0,.box 3 [i64 (n+zb1 p q)])]:=by
 have hc:=zgT (y5 p) (y5 q);exact yA tok mix func502 rfl rfl rfl rfl rfl<|wc<|wg (zA9 p q)<|Ar.fit (by unfold zb1;omega)<|⟨rfl,.refl⟩
def ztr{n:Nat}(h:i<n):((i:Int)+1)%(n:Int)=(((i+1)%n:Nat):Int):=by rw[QZ,QN];rfl
def zvf{x y:Pt}(hx:r[i]?=some x)(hy:r[(((i:Int)+1)%(r.length:Int)).toNat]?=some y)(h:i<r.length):vB r (i+1)=vB r i+zb1 x y:=by
 rw[ztr h,XX]at hy;rw[zeT,Xn,Xn,hx,hy];rfl
def zEr(r:LR)(hr:r.length<=4096):
  CG0 128 [.sl ptE r,.fn 502 [.loc 0 0]] [(0,.box 3 [i64 0])] (.tup []) [(0,.box 3 [i64 (vB r r.length)])]:=by
 refine yA tok mix func128 rfl rfl rfl rfl rfl λhl1=>?_;refine⟨Nat,λi=>⟨[(8,i64 i),(7,i64 r.length),(6,.sl ptE r),(0,.sl ptE r),(1,.fn 502 [.loc 0 0])],[(0,.box 3 [i64 (vB r i)])],1,25,1⟩,λi=>i<=r.length,λi=>r.length-i,0,?_,?_,?_⟩
 ·exact Xg _
 ·exact zi [0]
 rintro i h1
 refine⟨λg:(i:Int)<r.length=>?_,λg=>?_⟩
 ·refine wb λx hx=>wd<|wa λhl2=>Dv.pos ⟨oM,oM⟩ ?_;have q1:=K2 ((i:Int)+1) (b:=(r.length:Int)) oM;have q2:=KY ((i:Int)+1) (b:=(r.length:Int)) oM;refine Ob.mk ⟨q1,q2⟩ λy hy=>?_;have hx:r[i]?=some x:=hx;have hy:r[(((i:Int)+1)%(r.length:Int)).toNat]?=some y:=hy;have ha:=zpa r i;refine zb.hand 0 _ _ _ rfl (zEq (vB r i) x y oM) rfl rfl rfl rfl<|wh<|wa ?_
  have e:vB r (i+1)=vB r i+zb1 x y:=zvf hx hy oM;refine⟨i+1,oM,?_,oN⟩;dsimp only;rw[e];exact zi [0]
 have e:i=r.length:=by have g:¬(i:Int)<r.length:=g;omega
 subst e;exact⟨rfl,.refl⟩
def zEs(r:LR)(hr:(r.length:Int)<=9223372036854771711):CX 486 [.sl ptE r] (i64 (zeu r)):=by
 refine zd func486<|⟨LR,zE,[r],rfl,wb0 ?_⟩;refine zb.see 0 _ (zfS [r] (λq hq=>by rw[Xu]at hq;exact hq ▸ hr)) rfl rfl rfl<|Br.mk (λa1=>?_) (λa1=>?_)
 ·refine zh ?_;unfold zeu;rw[Xb (λh=>a1 ((zlJ r).2 h))]
 have a1:=(zlJ r).1 (Xc.1 a1);refine zb.give [1] 0 [.sl ptE r,.fn 502 [.loc 0 0]] [(0,.box 3 [i64 0])] [(0,.box 3 [i64 (vB r r.length)])] (.tup []) (zEr r (by have:=a1.1;omega)) LEs.refl rfl rfl rfl ⟨⟨_,rfl,rfl,rfl⟩,tV⟩ rfl ⟨⟨rfl,rfl⟩,tV⟩<|zh ?_;unfold zeu;rw[Xe a1]
def zvg:zeu []=0:=by decide +kernel
def zvh(h:zeu r≠0):r.length<=4096:=by
 unfold zeu at h
 split at h
 ·rename_i k;have:=k.1;omega
 exact absurd rfl h
def zpk(q:LR)(i k:Nat):Pt:=if k<i∨q.length<=k+i then q.getD (q.length-1-k) zp else q.getD k zp
def zeX(q:LR)(i:Nat):LR:=(List.range q.length).map (zpk q i)
def zpl(q:LR)(i:Nat):(zeX q i).length=q.length:=by unfold zeX;simp
def zdc(q:LR)(i k:Nat):(zeX q i)[k]?=if k<q.length then some (zpk q i k) else none:=by
 unfold zeX;rw[XA]
 by_cases h:k<q.length
 ·rw[Xe h,KT h];rfl
 rw[Xb h,XF (by simp;omega)];rfl
def zpm{q:LR}{k:Nat}(h:k<q.length):q[k]?=some (q.getD k zp):=by
 rw[Xn,Xa h];rfl
def zvi(q:LR):zeX q 0=q:=by
 refine Kv λk=>?_
 rw[zdc]
 by_cases h:k<q.length
 ·rw[Xe h,zpm h];unfold zpk;rw[Xb oM]
 rw[Xb h,XF oM]
def zx6{q:LR}(h:q.length<=2*i+1):zeX q i=q.reverse:=by
 refine Kv λk=>?_
 rw[zdc]
 by_cases hk:k<q.length
 ·rw[Xe hk,Ys hk,zpm oM];unfold zpk
  by_cases c:k<i∨q.length<=k+i
  ·rw[Xe c]
  rw[Xb c,show q.length-1-k=k by omega]
 rw[Xb hk,XF (by simp;omega)]
def zvj{q:LR}(h:2*i+1<q.length):
  ((zeX q i).set i (q.getD (q.length-1-i) zp)).set (q.length-1-i) (q.getD i zp)=zeX q (i+1):=by
 refine Kv λk=>?_
 rw[Kw,Kw,XP,zpl,zdc,zdc]
 by_cases hk:k<q.length
 ·rw[Xe hk,Xe hk]
  by_cases c1:q.length-1-i=k
  ·rw[Xe c1,Xe oM];unfold zpk;rw[Xe oM,show q.length-1-k=i by omega]
  rw[Xb c1]
  by_cases c2:i=k
  ·rw[Xe c2,Xe oM];unfold zpk;rw[Xe oM,c2]
  rw[Xb c2];unfold zpk
  by_cases c3:k<i∨q.length<=k+i
  ·rw[Xe c3,Xe oM]
  rw[Xb c3,Xb oM]
 rw[Xb oM,Xb oM,Xb hk,Xb hk]
def zts{q:LR}{k:Nat}(hk:k<q.length)(h:i<=k/\k+i<q.length):(zeX q i)[k]?=some (q.getD k zp):=by
 rw[zdc,Xe hk];unfold zpk;rw[Xb oM]
def p_rev(p:Pt)(q:LR)(hq:q.length<=4096):CG0 487 [.win 0 2 1 (q.length:Int)] [(0,.arr 28 ptE 2 (p::q))] (.tup []) [(0,.arr 28 ptE 2 (p::q.reverse))]:=by
 refine yA tok mix func487 rfl rfl rfl (λ_ _=>rfl) rfl<|wb<|wa<|⟨Nat,λi=>⟨[(3,i64 ((q.length:Int)-1-i)),(2,i64 i),(0,.win 0 2 1 (q.length:Int))],[(0,.arr 28 ptE 2 (p::zeX q i))],1,28,1⟩,λi=>2*i<=q.length,λi=>q.length-i,0,?_,?_,?_⟩
 ·exact Xg _
 ·exact ku [0] ⟨iR oM,rfl,rfl,tV⟩ ⟨Xj (λr=>some (Mem.arr 28 ptE 2 (p::r))) (zvi q).symm,tV⟩
 rintro i h1
 refine⟨λg:(i:Int)<(q.length:Int)-1-i=>?_,λg:¬(i:Int)<(q.length:Int)-1-i=>?_⟩
 ·have hlen:(p::zeX q i).length=q.length+1:=by rw[Xq,zpl]
  refine wc<|wb4<|Ob.mk (by rw[hlen];omega) λx hx=>?_
  have hx:x=q.getD (q.length-1-i) zp:=by
   have e:(p::zeX q i)[(1+((q.length:Int)-1-i)).toNat]?=some x:=hx;rw[show(1+((q.length:Int)-1-i)).toNat=(q.length-1-i)+1 by omega,KW,zts oM oM]at e;exact(Xl e).symm
  refine wb4<|Ob.mk (by rw[hlen];omega) λy hy=>?_
  have hy:y=q.getD i zp:=by
   have e:(p::zeX q i)[(1+(i:Int)).toNat]?=some y:=hy;rw[show(1+(i:Int)).toNat=i+1 by omega,KW,zts oM oM]at e;exact(Xl e).symm
  refine wb4<|Ob.mk (by rw[hlen];omega) λx' _=>?_;refine⟨x,rfl,?_⟩;refine wb4<|Ob.mk (by rw[XP,hlen];omega) λy' _=>?_;refine⟨y,rfl,?_⟩;(iterate 2 refine wa ?_);refine⟨i+1,oM,ku [0] ⟨iR oM,rfl,rfl,tV⟩ ⟨aR ?_,tV⟩,oN⟩;show((p::zeX q i).set (1+(i:Int)).toNat x).set (1+((q.length:Int)-1-i)).toNat y=p::zeX q (i+1)
  rw[show(1+(i:Int)).toNat=i+1 by omega,show(1+((q.length:Int)-1-i)).toNat=(q.length-1-i)+1 by omega,J0,J0,hx,hy,zvj oM]
 refine⟨Xj (λr=>some (Mem.arr 28 ptE 2 (p::r))) (zx6 oM),.refl⟩
def zny(q:LR)(hq:q.length<=4096):CG0 263 [.sl ptE q] [] (.own 0) [(0,.arr 28 ptE 2 q)]:=by
 refine qu tok mix func263 rfl rfl rfl ?_
 by_cases h0:q=[]
 ·refine zcz.any (Br.mk ?_ ?_)
  ·exact⟨none,.nil rfl,h0⟩
  refine⟨Pt,ptE,[],rfl,wb2 ?_⟩;refine⟨q,rfl,wb15 ?_⟩;exact⟨some 1,.own _ rfl,rfl,λ_ _=>rfl⟩
 refine zcz.some (λh=>h0 (Xo h))<|⟨Pt,ptE,[],rfl,wb2 ?_⟩;refine⟨q,rfl,wb15 ?_⟩;exact⟨some 1,.own _ rfl,rfl,λ_ _=>rfl⟩
def zvk(p:Pt):zeu [p]=0:=by
 unfold zeu
 split
 ·show vB [p] 1=0;have e0:vB [p] 0=0:=by unfold vB;rfl
  have e1:[p].getD 0 zp=p:=rfl;have e2:[p].getD ((0+1) % [p].length) zp=p:=by show[p].getD ((0+1)%1) zp=p;rw[Nat.mod_one];rfl
  rw[zeT,e0,e1,e2];unfold zb1;unfold wdg;rw[QL (ux p).x];omega
 rfl
def zaF(r:LR)(hr:(r.length:Int)<=9223372036854771711):CX 448 [.sl ptE r] (.sl ptE (qD r)):=by
 refine zd func448<|wg (zEs r hr)<|⟨λa1=>?_,λa1=>?_⟩
 ·have e:qD r=[]:=by unfold qD;rw[Xe a1]
  rw[e];exact zw
 have hq:=zvh a1;refine zb.fresh _ _ (zny r hq) rfl (λ_ _=>rfl) (.inr (λ_ _=>rfl))<|⟨λa2=>?_,λa2=>?_⟩
 ·have e:qD r=zxS r:=by unfold qD;rw[Xb a1,Xe a2]
  cases r with
  |nil=>exact absurd zvg a1
  |cons p q=>
   have h0:q≠[]:=λh=>a1 (by rw[h];exact zvk p)
   have h2:0<q.length:=Kl λh=>h0 (Xo h)
   have hL:((p::q).length:Int)=(q.length:Int)+1:=by simp only[Xq];omega
   have hq:q.length<=4096:=by simp only[Xq]at hq;omega
   refine Sl.win (Ob.mk ⟨oM,oM,oM,oM⟩ ?_)
   have ct:CG0 487 [.win 0 2 1 (((p::q).length:Int)-1)] [(0,.arr 28 ptE 2 (p::q))] (.tup []) [(0,.arr 28 ptE 2 (p::q.reverse))]:=by
    rw[show((p::q).length:Int)-1=(q.length:Int) by omega];exact p_rev p q hq
   refine zb.hand 0 _ _ _ rfl ct (λ_ _=>rfl) (λ_ _=>rfl) rfl rfl ?_;rw[e];exact kM rfl
 refine kM (show r=qD r by unfold qD;rw[Xb a1,Xb a2])
def P45(p:Pt):Prop:=(-35184372088832<=p.x/\p.x<=35184372088832)/\(-35184372088832<=p.y/\p.y<=35184372088832)
def P45.s{p:Pt}(h:P45 p):S50 p.x/\S50 p.y:=by unfold P45 at h;omega
variable{p:Pt}
def zm.p45(h:zm p):P45 p:=by unfold zm at h;unfold P45;omega
def y6(v:Pt)(w:Int):P45 (kT v w):=by have:=zgU v w;unfold P45;omega
def zpn(v:Pt)(w:Int):P45 ⟨(kT v w).y,-(kT v w).x⟩:=by have:=zgU v w;unfold P45;dsimp only;omega
variable{q:Pt}
def zEt(h:P45 p)(k:P45 q):S50 (zC p q).x/\S50 (zC p q).y:=by
 unfold P45 at h k;show S50 (p.x-q.x)/\S50 (p.y-q.y);omega
def zEu(h:P45 p)(k:P45 q):S50 (zS p q).x/\S50 (zS p q).y:=by
 unfold P45 at h k;show S50 (p.x+q.x)/\S50 (p.y+q.y);omega
def zrI{w:Int}(hw:kg w):(-16384<=kQ w 2/\kQ w 2<=16384)/\zaT (kQ w 2)=kQ w 2:=by
 unfold kg at hw;have:=ug (a:=w) (b:=2) (M:=16384) oM;exact⟨oM,zbt oM⟩
def zpo(a b:Pt)(w:Int):CG0 447 [wk a,wk b,i64 w] []
  (.tup [wk (if kg w/\zm a/\zm b then kT (zC b a) w else zp),pr (kg w/\zm a/\zm b)]) []:=by
 refine zd func447 ?_
 have bad:¬(kg w/\zm a/\zm b)->LE (.tup [wk zp,bl false]) (.tup [wk (if kg w/\zm a/\zm b then kT (zC b a) w else zp),pr (kg w/\zm a/\zm b)]):=λh=>by
  rw[Xb h];exact zW .refl (zc h)
 refine wg (ve w)<|⟨λa1=>bad (λh=>a1 h.1),λa1=>?_⟩;refine wg (kC a)<|⟨λa2=>bad (λh=>a2 h.2.1),λa2=>?_⟩;refine wg (kC b)<|⟨λa3=>bad (λh=>a3 h.2.2),λa3=>?_⟩;have h:kg w/\zm a/\zm b:=⟨Xc.1 a1,Xc.1 a2,Xc.1 a3⟩;refine wg (zjy b a h.2.2.p45.s h.2.1.p45.s)<|wg (zjz (zC b a) w) ?_;rw[Xe h];exact zW .refl (zI h)
def zEv(a b:Pt)(w:Int):CX 394 [wk a,wk b,i64 w] (.sl ptE (uy a b w)):=by
 refine zd func394 ?_
 have bad:¬(kg w/\zm a/\zm b)->LE nS (.sl ptE (uy a b w)):=λh=>by
  unfold uy;rw[Xe h];exact zw
 refine wg (zpo a b w)<|⟨λh=>bad h,λh=>?_⟩;have h:=Xc.1 h;rw[Xe h];refine wd<|wg (zjy a (kT (zC b a) w) h.2.1.p45.s (y6 (zC b a) w).s)<|wg (zjy b (kT (zC b a) w) h.2.2.p45.s (y6 (zC b a) w).s)<|wg (zeU b (kT (zC b a) w) h.2.2.p45.s (y6 (zC b a) w).s)<|wg (zeU a (kT (zC b a) w) h.2.1.p45.s (y6 (zC b a) w).s)<|⟨Pt,ptE,[zC a (kT (zC b a) w),zC b (kT (zC b a) w),zS b (kT (zC b a) w),zS a (kT (zC b a) w)],rfl,wb0 ?_⟩
 refine zb.see 3 _ (zaF [zC a (kT (zC b a) w),zC b (kT (zC b a) w),zS b (kT (zC b a) w),zS a (kT (zC b a) w)] (by show((4:Nat):Int)<=_;decide)) rfl rfl rfl<|wh ?_;unfold uy;rw[Xb (λk=>k h)];exact .refl
def p_cap(a b:Pt)(w:Int):CX 455 [wk a,wk b,i64 w] (.sl ptE (zrE a b w)):=by
 refine zd func455 ?_
 have bad:¬(kg w/\zm a/\zm b)->LE nS (.sl ptE (zrE a b w)):=λh=>by
  unfold zrE;rw[Xe h];exact zw
 refine wg (zpo a b w)<|⟨λh=>bad h,λh=>?_⟩;have h:=Xc.1 h;rw[Xe h];have hn:=zgU (zC b a) w;refine wa<|wd<|wg (zjy b (kT (zC b a) w) h.2.2.p45.s (y6 (zC b a) w).s)<|wg (zjy b (kT (zC b a) w) h.2.2.p45.s (y6 (zC b a) w).s)<|wg (zeU (zC b (kT (zC b a) w)) ⟨(kT (zC b a) w).y,-(kT (zC b a) w).x⟩ (zEt h.2.2.p45 (y6 (zC b a) w)) (zpn (zC b a) w).s)<|wg (zeU b (kT (zC b a) w) h.2.2.p45.s (y6 (zC b a) w).s) ?_
 refine wg (zeU (zS b (kT (zC b a) w)) ⟨(kT (zC b a) w).y,-(kT (zC b a) w).x⟩ (zEu h.2.2.p45 (y6 (zC b a) w)) (zpn (zC b a) w).s)<|wg (zeU b (kT (zC b a) w) h.2.2.p45.s (y6 (zC b a) w).s)<|⟨Pt,ptE,[zC b (kT (zC b a) w),zS (zC b (kT (zC b a) w)) ⟨(kT (zC b a) w).y,-(kT (zC b a) w).x⟩,zS (zS b (kT (zC b a) w)) ⟨(kT (zC b a) w).y,-(kT (zC b a) w).x⟩,zS b (kT (zC b a) w)],rfl,wb0 ?_⟩
 refine zb.see 4 _ (zaF [zC b (kT (zC b a) w),zS (zC b (kT (zC b a) w)) ⟨(kT (zC b a) w).y,-(kT (zC b a) w).x⟩,zS (zS b (kT (zC b a) w)) ⟨(kT (zC b a) w).y,-(kT (zC b a) w).x⟩,zS b (kT (zC b a) w)] (by show((4:Nat):Int)<=_;decide)) rfl rfl rfl<|wh ?_;unfold zrE;rw[Xb (λk=>k h)];exact .refl
def zEw(p:Pt)(w:Int):CX 445 [wk p,i64 w] (.sl ptE (zjv p w)):=by
 refine zd func445 ?_
 have bad:¬(kg w/\zm p)->LE nS (.sl ptE (zjv p w)):=λh=>by
  unfold zjv;rw[Xe h];exact zw
 refine wg (ve w)<|⟨λa1=>bad (λh=>a1 h.1),λa1=>?_⟩;refine wg (kC p)<|⟨λa2=>bad (λh=>a2 h.2),λa2=>?_⟩;have h:kg w/\zm p:=⟨Xc.1 a1,Xc.1 a2⟩;have hh:=zrI h.1;have hw:=h.1;have hp:=h.2;unfold kg at hw;unfold zm at hp;refine wg (ud w 2 ⟨oM,oM⟩ ⟨oM,oM⟩) ?_;rw[hh.2];(iterate 8 refine wa ?_)
 refine⟨Pt,ptE,[⟨p.x-kQ w 2,p.y-kQ w 2⟩,⟨p.x+kQ w 2,p.y-kQ w 2⟩,⟨p.x+kQ w 2,p.y+kQ w 2⟩,⟨p.x-kQ w 2,p.y+kQ w 2⟩],rfl,wb0 ?_⟩;refine zb.see 1 _ (zaF [⟨p.x-kQ w 2,p.y-kQ w 2⟩,⟨p.x+kQ w 2,p.y-kQ w 2⟩,⟨p.x+kQ w 2,p.y+kQ w 2⟩,⟨p.x-kQ w 2,p.y+kQ w 2⟩] (by show((4:Nat):Int)<=_;decide)) rfl rfl rfl ?_;unfold zjv;rw[Xb (λk=>k h)];exact .refl
def zBe:∀q∈zbf,(-16384<=q.x/\q.x<=16384)/\(-16384<=q.y/\q.y<=16384):=by decide +kernel
def zpp(p:Pt)(w:Int)(q:Pt):Pt:=zS p ⟨kQ (q.x*w) 32768,kQ (q.y*w) 32768⟩
def zlK{w:Int}(hx: -16384<=x/\x<=16384)(hw:kg w):(-268435456<=x*w/\x*w<=268435456)/\(-268435456<=kQ (x*w) 32768/\kQ (x*w) 32768<=268435456)/\zaT (kQ (x*w) 32768)=kQ (x*w) 32768:=by
 unfold kg at hw;have h:=jh (A:=16384) (B:=16384) (a:=x) (b:=w) oM oM;have:=ug (a:=x*w) (b:=32768) (M:=268435456) oM;exact⟨oM,oM,zbt oM⟩
def zjD(p:Pt):Prop:=(-2097152<=p.x/\p.x<=2097152)/\(-2097152<=p.y/\p.y<=2097152)
def zgV(hp:zm p)(hq:zm q):zjD (zC p q):=by
 unfold zm at hp hq;show(-2097152<=p.x-q.x/\p.x-q.x<=2097152)/\(-2097152<=p.y-q.y/\p.y-q.y<=2097152);omega
def zpq(hp:zjD p)(hq:zjD q):(-4398046511104<=p.x*q.y/\p.x*q.y<=4398046511104)/\(-4398046511104<=p.y*q.x/\p.y*q.x<=4398046511104):=by
 have h1:=jh hp.1 hq.2;have h2:=jh hp.2 hq.1;omega
def ztt(w:Int):CX 488 [i64 w] (pr (kg w)):=by
 refine zd func488<|Br.mk (λh=>?_) (λh=>zc (λk=>h k.1));exact zr ⟨λk=>⟨h,k⟩,λk=>k.2⟩
def zx7(a b:Pt)(ha:S50 a.x/\S50 a.y)(hb:S50 b.x/\S50 b.y):CX 489 [wk a,wk b] (wk (zC b a)):=by
 refine zd func489 ?_;(iterate 2 refine wa ?_);exact .refl
def zvl(n:Pt):zC zp n=znu n:=by
 unfold zC znu zp;dsimp only;rw[Int.zero_sub,Int.zero_sub]
def zDi(n:Pt)(h:S50 n.x/\S50 n.y):CX 489 [wk n,wk zp] (wk (znu n)):=by
 have c:=zx7 n zp h ⟨dC,dC⟩
 rwa [zvl]at c
def outE(o:Pt×Pt×Bool):SV:=.tup [wk o.1,wk o.2.1,pr (o.2.2=true)]
def zeY{o:Pt×Pt×Bool}{n m:Pt}{b:Bool}(h:o=(n,m,b)):LE (.tup [wk n,wk m,bl b]) (outE o):=by
 subst h;exact zeQ (.C (.C (.cons zs2 .nil)))
def zBf(a v b:Pt)(w:Int):CX 452 [wk a,wk v,wk b,i64 w] (outE (q9 a v b w)):=by
 refine zd func452 ?_;have bad:¬(zm a/\zm v/\zm b/\kg w)->q9 a v b w=(zp,zp,false):=λh=>by unfold q9;rw[Xe h]
 refine wg (kC a)<|⟨λa1=>zeY (bad (λh=>a1 h.1)),λa1=>?_⟩;refine wg (kC v)<|⟨λa2=>zeY (bad (λh=>a2 h.2.1)),λa2=>?_⟩;refine wg (kC b)<|⟨λa3=>zeY (bad (λh=>a3 h.2.2.1)),λa3=>?_⟩;refine wg (ztt w)<|⟨λa4=>zeY (bad (λh=>a4 h.2.2.2)),λa4=>?_⟩;have ha:=Xc.1 a1;have hv:=Xc.1 a2;have hb:=Xc.1 a3;have hw:=Xc.1 a4;have hx:=zgV hv ha;have hy:=zgV hb hv
 have e:q9 a v b w=if wdg (zC v a) (zC b v)=0 then(zp,zp,false) else if 0<wdg (zC v a) (zC b v) then(znu (kT (zC v a) w),znu (kT (zC b v) w),true) else(kT (zC v a) w,kT (zC b v) w,true):=by
  unfold q9;rw[Xb (λk=>k ⟨ha,hv,hb,hw⟩)]
 have hd:=zpq hx hy;refine wc<|wg (zx7 a v ha.p45.s hv.p45.s)<|wg (zx7 v b hv.p45.s hb.p45.s)<|wc<|wg (zjz (zC v a) w)<|wg (zjz (zC b v) w) ?_;(iterate 3 refine wa ?_);refine⟨λk:wdg (zC v a) (zC b v)=0=>?_,λk:¬wdg (zC v a) (zC b v)=0=>?_⟩
 ·exact zeY (e.trans (Xe k))
 refine⟨λk2:0<wdg (zC v a) (zC b v)=>?_,λk2:¬0<wdg (zC v a) (zC b v)=>?_⟩
 ·exact wc<|wg (zDi (kT (zC v a) w) (y6 _ _).s)<|wg (zDi (kT (zC b v) w) (y6 _ _).s)<|zeY (e.trans ((Xb k).trans (Xe k2)))
 exact wd<|wh<|zeY (e.trans ((Xb k).trans (Xb k2)))
def wcell(i k j:Nat):Pt:=if j%4<i∨(j%4=i/\j/4<k) then zbf.getD j zp else zp
def zgW(i k:Nat):LQ:=(List.range 16).flatMap λj=>ptE (wcell i k j)
def zEx:CX 484 [] (.agg (zgW 4 0)):=by
 refine zd func484<|⟨Nat,λi=>⟨[(10,i64 i),(9,.agg [i64 16384,i64 0,i64 15137,i64 6270,i64 11585,i64 11585,i64 6270,i64 15137]),(1,.loc 1 0),(0,.loc 0 0)],[(1,.box 408 (zgW i 0)),(0,.box 408 (zgW 0 0))],2,28,0⟩,λi=>i<=4,λi=>4-i,0,?_,?_,?_⟩
 ·exact Xg _
 ·exact zi [0,1]
 rintro i hi
 rcases X7 i 4 with c|c
 ·obtain⟨j,e⟩:∃j,j=i:=⟨_,rfl⟩;obtain⟨n,hn⟩:∃n,i+1=n:=⟨_,rfl⟩;obtain rfl|rfl|rfl|rfl:i=0∨i=1∨i=2∨i=3:=oM
  all_goals
   refine we<|⟨Nat,λk=>⟨[(14,i64 k),(3,.loc 2 0),(2,i64 j),(10,i64 j),(9,.agg [i64 16384,i64 0,i64 15137,i64 6270,i64 11585,i64 11585,i64 6270,i64 15137]),(1,.loc 1 0),(0,.loc 0 0)],[(2,.box 28 (ptE (zbf.getD ((4*k+j)%16) zp))),(1,.box 408 (zgW j k)),(0,.box 408 (zgW 0 0))],3,28,0⟩,λk=>k<=4,λk=>4-k,0,Xg _,?_,?_⟩
   ·subst e;exact zi [0,1,2]
   intro k hk
   rcases X7 k 4 with d|d
   ·have q:=zEm (zbf.getD (4*k+j) zp);obtain⟨m,hm⟩:∃m,k+1=m:=⟨_,rfl⟩;obtain rfl|rfl|rfl|rfl:k=0∨k=1∨k=2∨k=3:=oM
    all_goals
     subst e;refine we<|Ar.fit dC<|Ar.fit dC<|wg q<|Ar.fit dC<|⟨m,oM,?_,oN⟩;subst hm;exact zi [0,1,2]
   obtain rfl:k=4:=by omega
   subst e;refine⟨λh=>absurd h dC,λ_=>?_⟩;refine Ar.fit dC<|⟨n,oM,?_,oN⟩;subst hn;exact zi [0,1]
 obtain rfl:i=4:=by omega
 refine⟨λh=>absurd h dC,λ_=>?_⟩;exact .refl
def zrJ(p:Pt)(w:Int):CX 446 [wk p,i64 w] (.sl ptE (zcw p w)):=by
 refine zd func446 ?_
 have bad:¬(kg w/\zm p)->LE nS (.sl ptE (zcw p w)):=λh=>by
  unfold zcw;rw[Xe h];exact zw
 refine wg (ve w)<|⟨λa1=>bad (λh=>a1 h.1),λa1=>?_⟩;refine wg (kC p)<|⟨λa2=>bad (λh=>a2 h.2),λa2=>?_⟩;have h:kg w/\zm p:=⟨Xc.1 a1,Xc.1 a2⟩;refine wg zEx<|⟨Nat,λi=>⟨[(17,i64 i),(16,.agg (zgW 4 0)),(5,.own 1),(2,.loc 0 0),(1,i64 w)],[(1,.arr 28 ptE 2 ((zbf.take i).map (zpp p w))),(0,.box 28 (ptE p))],2,39,0⟩,λi=>i<=16,λi=>16-i,0,?_,?_,?_⟩
 ·exact Xg _
 ·exact zA [(0,some 0),(1,none)]
 rintro i hi
 rcases X7 i 16 with c|c
 ·have hb:=zBe (zbf.getD i zp) (by rw[Xn,Xa (show i<zbf.length from c)];exact X5 _);have t1:=zlK hb.1 h.1;have t2:=zlK hb.2 h.1;have f1: -9223372036854775808<=(zbf.getD i zp).x*w/\(zbf.getD i zp).x*w<=9223372036854775807:=oM;have f2: -9223372036854775808<=(zbf.getD i zp).y*w/\(zbf.getD i zp).y*w<=9223372036854775807:=oM;have d1:=ud ((zbf.getD i zp).x*w) 32768 ⟨oM,oM⟩ ⟨dC,dC⟩;have d2:=ud ((zbf.getD i zp).y*w) 32768 ⟨oM,oM⟩ ⟨dC,dC⟩;rw[t1.2.2]at d1;rw[t2.2.2]at d2
  obtain⟨L,hL⟩:∃L,zpp p w (zbf.getD i zp)=L:=⟨_,rfl⟩;have d3:=zeU p ⟨kQ ((zbf.getD i zp).x*w) 32768,kQ ((zbf.getD i zp).y*w) 32768⟩ h.2.p45.s ⟨oN,oN⟩;rw[show zS p _=L from hL]at d3;have n1:((zbf.take i).map (zpp p w)).length<=16:=by rw[Xz,Xv];omega
  obtain⟨k,hk⟩:∃k,i+1=k:=⟨_,rfl⟩;clear hi hb t1 t2;obtain rfl|rfl|rfl|rfl|rfl|rfl|rfl|rfl|rfl|rfl|rfl|rfl|rfl|rfl|rfl|rfl:i=0∨i=1∨i=2∨i=3∨i=4∨i=5∨i=6∨i=7∨i=8∨i=9∨i=10∨i=11∨i=12∨i=13∨i=14∨i=15:=oM
  all_goals
   refine we<|wd<|Ar.fit f1<|wg d1<|Ar.fit f2<|wg d2 ?_;refine wg d3<|⟨Pt,ptE,[L],rfl,wb0 ?_⟩;refine⟨[L],rfl,Ob.mk ⟨by simp only[Xq,Xt];omega,by simp only[Xq,Xt];omega,dC,λ_ _=>rfl⟩ ?_⟩;refine wh<|Ar.fit dC<|⟨k,oM,?_,oN⟩;subst hk hL;exact zi [0,4]
 obtain rfl:i=16:=by omega
 refine⟨λh=>absurd h dC,λ_=>?_⟩;refine zb.see 1 _ (zaF (zbf.map (zpp p w)) (by show((16:Nat):Int)<=_;decide)) rfl rfl rfl<|kM (show qD (zbf.map (zpp p w))=zcw p w from ?_);unfold zcw;rw[Xb (λk=>k h)];rfl
def zdW(p q:Pt)(hp:S50 p.x/\S50 p.y)(hq:S50 q.x/\S50 q.y):CX 453 [wk p,wk q] (wk (zS p q)):=by
 refine zd func453 ?_;(iterate 2 refine wa ?_);exact .refl
def znz(r:LR):CX 451 [.sl ptE r] (.sl zE (qH r)):=by
 refine zd func451 λhl1=>?_;refine⟨λh=>?_,λh=>?_⟩
 ·have e:qH r=[]:=by unfold qH;rw[Xe (Xo (by have h:(r.length:Int)=0:=h;omega))]
  rw[e];exact zw
 refine⟨LR,zE,[r],rfl,wb0 ?_⟩;refine kM (show[r]=qH r from ?_);unfold qH;rw[Xb (λe=>h (by rw[e];rfl))]
def zx8(a b:Int)(ha:0<=a/\a<18446744073709551616)(hb:0<=b/\b<18446744073709551616):
  CX 490 [u64 a,u64 b] (.tup [u64 (a*b/18446744073709551616),u64 (a*b%18446744073709551616)]):=by
 obtain⟨x,rfl⟩:=Qr ha.1;obtain⟨y,rfl⟩:=Qr hb.1;have c:=zs8 x y oM oM;have e1:((x*y/18446744073709551616:Nat):Int)=(x:Int)*y/18446744073709551616:=by rw[Ye,Kb];rfl
 have e2:((x*y%18446744073709551616:Nat):Int)=(x:Int)*y%18446744073709551616:=by rw[QZ,Kb];rfl
 rw[e1,e2]at c;exact c
def zlL(hp:zm p)(hq:zm q):zjD (zS p q):=by
 unfold zm at hp hq;show(-2097152<=p.x+q.x/\p.x+q.x<=2097152)/\(-2097152<=p.y+q.y/\p.y+q.y<=2097152);omega
def tipE(o:Pt×Bool):SV:=.tup [wk o.1,pr (o.2=true)]
def zb8{o:Pt×Bool}{n:Pt}{b:Bool}(h:o=(n,b)):LE (.tup [wk n,bl b]) (tipE o):=by
 subst h;exact zW .refl zs2
def zfT{w:Int}(hx: -2097152<=x/\x<=2097152)(hw:kg w):(-34359738368<=x*w/\x*w<=34359738368)/\(-562949953421312<=x*w*w/\x*w*w<=562949953421312)/\(1<=w*w/\w*w<=268435456):=by
 unfold kg at hw;have h1:=jh (A:=2097152) (B:=16384) (a:=x) (b:=w) oM oM;have h2:=jh (A:=34359738368) (B:=16384) (a:=x*w) (b:=w) oM oM;have h3:=jh (A:=16384) (B:=16384) (a:=w) (b:=w) oM oM;have h4:=QW (show 0<w by omega) (show 0<w by omega);omega
def znA(x w q:Int)(hx: -2097152<=x/\x<=2097152)(hw:kg w)(hq:0<=q/\q<=8796093022208):CX 491 [i64 x,.ptr [i64 w],.ptr [i64 q]] (i64 (kQ (x*w*w) (2*q))):=by
 have h:=zfT hx hw;refine zd func491 ?_;(iterate 3 refine wa ?_);exact wg (ud (x*w*w) (2*q) ⟨oM,oM⟩ ⟨oM,oM⟩)<|zh (zbt oM)
def p_tip(n m:Pt)(w lim:Int):CX 454 [wk n,wk m,i64 w,i64 lim] (tipE (zb2 n m w lim)):=by
 refine zd func454 ?_;have bad:¬(zm n/\zm m/\kg w/\256<=lim/\lim<=65536)->zb2 n m w lim=(zp,false):=λh=>by unfold zb2;rw[Xe h]
 refine wg (kC n)<|⟨λa1=>zb8 (bad (λh=>a1 h.1)),λa1=>?_⟩;refine wg (kC m)<|⟨λa2=>zb8 (bad (λh=>a2 h.2.1)),λa2=>?_⟩;refine wg (ztt w)<|⟨λa3=>zb8 (bad (λh=>a3 h.2.2.1)),λa3=>?_⟩;refine⟨λa4=>zb8 (bad (λh=>by have a4:lim<256:=a4;omega)),λa4=>?_⟩;refine⟨λa5=>zb8 (bad (λh=>by have a5:65536<lim:=a5;omega)),λa5=>?_⟩;have hn:=Xc.1 a1;have hm:=Xc.1 a2;have hw:=Xc.1 a3
 have hl:256<=lim/\lim<=65536:=⟨by have a4:¬lim<256:=a4;omega,by have a5:¬65536<lim:=a5;omega⟩;have hs:=zlL hn hm
 have e:zb2 n m w lim=if (zS n m).x*(zS n m).x+(zS n m).y*(zS n m).y=0∨lim*lim*((zS n m).x*(zS n m).x+(zS n m).y*(zS n m).y)<256*w*(256*w) then(zp,false)
   else(⟨kQ ((zS n m).x*w*w) (2*((zS n m).x*(zS n m).x+(zS n m).y*(zS n m).y)),kQ ((zS n m).y*w*w) (2*((zS n m).x*(zS n m).x+(zS n m).y*(zS n m).y))⟩,true):=by
  unfold zb2;rw[Xb (λk=>k ⟨hn,hm,hw,hl⟩)]
 refine wg (zdW n m hn.p45.s hm.p45.s) ?_;generalize zS n m=s at*;have s1:=jh (A:=2097152) (B:=2097152) (a:=s.x) (b:=s.x) hs.1 hs.1;have s2:=jh (A:=2097152) (B:=2097152) (a:=s.y) (b:=s.y) hs.2 hs.2;have p1:=j9 s.x;have p2:=j9 s.y;have l1:=jh (A:=65536) (B:=65536) (a:=lim) (b:=lim) oM oM;have l2:=j9 lim;have t:=zfT hs.1 hw;have w0:=hw;unfold kg at w0;(iterate 6 refine wa ?_);have hq:0<=s.x*s.x+s.y*s.y/\s.x*s.x+s.y*s.y<=8796093022208:=oM
 refine wg (zx8 (lim*lim) (s.x*s.x+s.y*s.y) oM oM)<|⟨λb1=>?_,λb1=>?_⟩
 ·have b1:s.x*s.x+s.y*s.y=0:=b1;exact zb8 (e.trans (Xe (.inl b1)))
 have b1:¬s.x*s.x+s.y*s.y=0:=b1;have hww:256*w*256*w=256*w*(256*w):=by grind
 have hP:0<=lim*lim*(s.x*s.x+s.y*s.y):=XI oM oM
 have go:¬lim*lim*(s.x*s.x+s.y*s.y)<256*w*(256*w)->zb2 n m w lim=(⟨kQ (s.x*w*w) (2*(s.x*s.x+s.y*s.y)),kQ (s.y*w*w) (2*(s.x*s.x+s.y*s.y))⟩,true):=λh=>
  e.trans (Xb (λk=>k.elim b1 h))
 have w3:256*w*256*w=65536*(w*w):=by grind
 refine⟨λb2:lim*lim*(s.x*s.x+s.y*s.y)/18446744073709551616=0=>?_,λb2:¬lim*lim*(s.x*s.x+s.y*s.y)/18446744073709551616=0=>?_⟩
 ·(iterate 4 refine wa ?_);refine⟨λb3:lim*lim*(s.x*s.x+s.y*s.y)%18446744073709551616<256*w*256*w=>?_,λb3:¬lim*lim*(s.x*s.x+s.y*s.y)%18446744073709551616<256*w*256*w=>?_⟩
  ·exact zb8 (e.trans (Xe (.inr (by generalize lim*lim*(s.x*s.x+s.y*s.y)=P at*;omega))))
  exact wc<|wg (znA s.x w (s.x*s.x+s.y*s.y) hs.1 hw hq)<|wg (znA s.y w (s.x*s.x+s.y*s.y) hs.2 hw hq)<|zb8 (go (by generalize lim*lim*(s.x*s.x+s.y*s.y)=P at*;omega))
 exact wc<|wg (znA s.x w (s.x*s.x+s.y*s.y) hs.1 hw hq)<|wg (znA s.y w (s.x*s.x+s.y*s.y) hs.2 hw hq)<|zb8 (go (by generalize lim*lim*(s.x*s.x+s.y*s.y)=P at*;omega))
def kD{p:Prop}[Decidable p](h:p){a b:α}:(if¬p then a else b)=b:=Xb (λk=>k h)
def qV{n:Int}(h:n=0){a b:α}:(if n≠0 then a else b)=b:=Xb (λk=>k h)
def ye(q:LR)(x:Pt):LR:=if q.getLast?=some x then q else q++[x]
def qj(q more:LR):LR:=more.foldl ye q
def jK(p:Pt)(s:Sg)(tol:Int):LR×Int:=if s.v=3 then zda p s.a s.b tol else if s.v=4 then zdb p s.a s.b s.c tol else([s.a],0)
def zhG(l:LR):Pt:=l.getLastD zp
def zbv(p:Pl)(s:Sg)(tol:Int):Pl×Int:=
 if s.v=5 then(⟨qi p.pts,true⟩,0)
 else if (jK (zhG p.pts) s tol).2≠0 then(p,(jK (zhG p.pts) s tol).2)
 else(⟨qj p.pts (jK (zhG p.pts) s tol).1,p.cl⟩,0)
def jq(tol:Int)(st:List Pl×Int)(s:Sg):List Pl×Int:=
 if st.2≠0 then([],st.2)
 else if s.v=1 then(st.1++[⟨[s.a],false⟩],0)
 else if (zbv (st.1.getLastD ⟨[],false⟩) s tol).2≠0 then([],(zbv (st.1.getLastD ⟨[],false⟩) s tol).2)
 else(st.1.dropLast++[(zbv (st.1.getLastD ⟨[],false⟩) s tol).1],0)
variable{tol:Int}{S:List Pl}
def zfU{s:Sg}:jq tol (S,0) s=
  if s.v=1 then(S++[⟨[s.a],false⟩],0)
  else if (zbv (S.getLastD ⟨[],false⟩) s tol).2≠0 then([],(zbv (S.getLastD ⟨[],false⟩) s tol).2)
  else(S.dropLast++[(zbv (S.getLastD ⟨[],false⟩) s tol).1],0):=Xb (λk:(0:Int)≠0=>k rfl)
def jm(l:LW)(tol:Int):List Pl×Int:=l.foldl (jq tol) ([],0)
def yo(l:List Pl):Nat:=(l.map λp=>p.pts.length).sum
def zev(tol:Int):Prop:=1<=tol/\tol<=256
instance (tol:Int):Decidable (zev tol):=wi
def kv(l:LW)(tol:Int):List Pl×Int:=
 if¬kX l then([],10) else if¬zev tol then([],2) else if (jm l tol).2≠0 then([],(jm l tol).2)
 else if 4096<yo (jm l tol).1 then([],5) else((jm l tol).1,0)
def inB(lo hi p:Pt):Prop:=(lo.x<=p.x/\p.x<=hi.x)/\(lo.y<=p.y/\p.y<=hi.y)
def ztu{a b lo hi:Int}(hb:0<b)(h1:lo*b<=a)(h2:a<=hi*b):lo<=zfM a b/\zfM a b<=hi:=by
 unfold zfM;constructor
 ·rw[Int.le_ediv_iff_mul_le oM];have:lo*(2*b)=2*(lo*b):=by grind
  omega
 have h3:(2*a+b)/(2*b)<hi+1:=by
  rw[Int.ediv_lt_iff_lt_mul oM];have:(hi+1)*(2*b)=2*(hi*b)+2*b:=by grind
  omega
 omega
def zDj{i n a b c lo hi:Int}(hn:1<=n)(hi0:0<=i)(hin:i<=n)(ha:lo<=a/\a<=hi)(hb:lo<=b/\b<=hi)(hc:lo<=c/\c<=hi):lo<=q1 i n a b c/\q1 i n a b c<=hi:=by
 unfold q1;have w0:0<=(n-i)*(n-i):=XI oM oM;have w1:0<=2*i*(n-i):=XI oM oM;have w2:0<=i*i:=XI oM oM;have e:n*n=(n-i)*(n-i)+2*i*(n-i)+i*i:=by grind
 have g1:=XI w0 (show 0<=a-lo by omega);have g2:=XI w1 (show 0<=b-lo by omega);have g3:=XI w2 (show 0<=c-lo by omega);have g4:=XI w0 (show 0<=hi-a by omega);have g5:=XI w1 (show 0<=hi-b by omega);have g6:=XI w2 (show 0<=hi-c by omega);refine ztu (QW oM oM) ?_ ?_
 ·rw[e];grind
 rw[e];grind
def zDk{i n a b c d lo hi:Int}(hn:1<=n)(hi0:0<=i)(hin:i<=n)(ha:lo<=a/\a<=hi)(hb:lo<=b/\b<=hi)(hc:lo<=c/\c<=hi)(hd:lo<=d/\d<=hi):
  lo<=c1 i n a b c d/\c1 i n a b c d<=hi:=by
 unfold c1;have w0:0<=(n-i)*(n-i)*(n-i):=XI (XI oM oM) oM;have w1:0<=3*i*(n-i)*(n-i):=XI (XI oM oM) oM;have w2:0<=3*i*i*(n-i):=XI (XI oM oM) oM;have w3:0<=i*i*i:=XI (XI oM oM) oM;have e:n*n*n=(n-i)*(n-i)*(n-i)+3*i*(n-i)*(n-i)+3*i*i*(n-i)+i*i*i:=by grind
 have g1:=XI w0 (show 0<=a-lo by omega);have g2:=XI w1 (show 0<=b-lo by omega);have g3:=XI w2 (show 0<=c-lo by omega);have g4:=XI w3 (show 0<=d-lo by omega);have k1:=XI w0 (show 0<=hi-a by omega);have k2:=XI w1 (show 0<=hi-b by omega);have k3:=XI w2 (show 0<=hi-c by omega);have k4:=XI w3 (show 0<=hi-d by omega);refine ztu (QW (QW oM oM) oM) ?_ ?_
 ·rw[e];grind
 rw[e];grind
def zhH(need tol:Int):∀(k n:Nat),1<=n->(vh need tol k n).2=0->1<=(vh need tol k n).1/\(vh need tol k n).1<=(n+k:Nat)-1
 |0,n,_,h=>by cases h
 |k+1,n,hn,h=>by
  unfold vh at h ⊢
  split
  ·exact⟨oN,oN⟩
  rename_i c;rw[Xb c]at h;have:=zhH need tol k (n+1) oM h;omega
variable{l:LR}
def zaf{need:Int}(h:(jA need tol l).2=0):(1<=(jA need tol l).1/\(jA need tol l).1<=64)/\zev tol/\(∀p∈l,zm p)/\jA need tol l=vh need tol 64 1:=by
 unfold jA at h ⊢
 by_cases h1:¬(1<=tol/\tol<=256)
 ·rw[Xe h1]at h;exact absurd h dC
 rw[Xb h1]at h ⊢
 by_cases h2:¬∀p∈l,zm p
 ·rw[Xe h2]at h;exact absurd h dC
 rw[Xb h2]at h ⊢;have:=zhH need tol 64 1 dC h;exact⟨oM,Xc.1 h1,Xc.1 h2,rfl⟩
def zpr{f:Int->Pt}{n:Nat}(h:p∈zfQ f n):∃i:Nat,i<n/\p=f ((i:Int)+1):=by
 unfold zfQ at h;obtain⟨i,hi,rfl⟩:=XL.1 h;exact⟨i,XT.1 hi,rfl⟩
variable{lo:Pt}{hi:Pt}{a:Pt}{b:Pt}{c:Pt}
def zvm{i n:Int}(hn:1<=n/\n<=64)(hi':0<=i/\i<=n)(ho:∀p∈[a,b,c],zm p)(h:∀p∈[a,b,c],inB lo hi p):inB lo hi (zaD a b c i n):=by
 unfold zaD;rw[Xb (λk=>k ⟨ho,hn.1,hn.2,hi'.1,hi'.2⟩)];have ha:=h a sI;have hb:=h b sI;have hc:=h c sI;exact⟨zDj hn.1 hi'.1 hi'.2 ha.1 hb.1 hc.1,zDj hn.1 hi'.1 hi'.2 ha.2 hb.2 hc.2⟩
def zvn{d:Pt}{i n:Int}(hn:1<=n/\n<=64)(hi':0<=i/\i<=n)(ho:∀p∈[a,b,c,d],zm p)(h:∀p∈[a,b,c,d],inB lo hi p):inB lo hi (zaE a b c d i n):=by
 unfold zaE;rw[Xb (λk=>k ⟨ho,hn.1,hn.2,hi'.1,hi'.2⟩)];have ha:=h a sI;have hb:=h b sI;have hc:=h c sI;have hd:=h d sI;exact⟨zDk hn.1 hi'.1 hi'.2 ha.1 hb.1 hc.1 hd.1,zDk hn.1 hi'.1 hi'.2 ha.2 hb.2 hc.2 hd.2⟩
def zx9(h0:(zda a b c tol).2=0)(h:∀p∈[a,b,c],inB lo hi p):∀p∈(zda a b c tol).1,inB lo hi p:=by
 unfold zda at h0 ⊢
 split
 ·intro p hp;cases hp
 rename_i h1;have h1:=Xc.1 h1;have ok:=zaf h1;intro p hp;obtain⟨i,hi,rfl⟩:=zpr (show p∈zfQ (λi=>zaD a b c i (yU a b c tol).1) (yU a b c tol).1.toNat from hp);unfold yU at hi ⊢;exact zvm (by unfold yU at*;omega) (by unfold yU at*;omega) ok.2.2.1 h
def zya{d:Pt}(h0:(zdb a b c d tol).2=0)(h:∀p∈[a,b,c,d],inB lo hi p):∀p∈(zdb a b c d tol).1,inB lo hi p:=by
 unfold zdb at h0 ⊢
 split
 ·intro p hp;cases hp
 rename_i h1;have h1:=Xc.1 h1;have ok:=zaf h1;intro p hp;obtain⟨i,hi,rfl⟩:=zpr (show p∈zfQ (λi=>zaE a b c d i (yV a b c d tol).1) (yV a b c d tol).1.toNat from hp);unfold yV at hi ⊢;exact zvn (by unfold yV at*;omega) (by unfold yV at*;omega) ok.2.2.1 h
def zjE:∀{l:LR} {x:Pt},yd l->l.getLast?≠some x->yd (l++[x])
 |[],x,_,_=>⟨λ_ h=>(by cases h),tV⟩
 |[p],x,_,h=>⟨λq hq e=>h (by cases hq;rw[e];rfl),⟨λ_ h=>(by cases h),tV⟩⟩
 |p::q::r,x,h,hl=>⟨λz hz=>h.1 z hz,zjE (l:=q::r) h.2 (by rwa [List.getLast?_cons_cons]at hl)⟩
def zvo(h:yd l)(x:Pt):yd (ye l x):=by
 unfold ye
 split
 ·exact h
 rename_i k;exact zjE h k
def zjF:∀(more:LR) {l:LR},yd l->yd (qj l more)
 |[],_,h=>h
 |x::r,l,h=>zjF r (zvo h x)
def zjG:∀{l:LR},yd l->yd l.dropLast
 |[],_=>trivial
 |[p],_=>trivial
 |[p,q],h=>⟨λ_ h=>(by cases h),tV⟩
 |p::q::r::s,h=>⟨λz hz=>h.1 z hz,zjG (l:=q::r::s) h.2⟩
def zjH(h:yd l):yd (qi l):=by
 unfold qi;split
 ·exact zjG h
 exact h
def zBg{x:Pt}(h:p∈ye l x):p∈l∨p=x:=by
 unfold ye at h
 split at h
 ·exact .inl h
 simpa using h
def zps:∀(more:LR) {l:LR} {p:Pt},p∈qj l more->p∈l∨p∈more
 |[],_,_,h=>.inl h
 |x::r,l,p,h=>by
  rcases zps r (l:=ye l x) h with h|h
  ·exact(zBg h).imp id λe=>by rw[e];exact .head _
  exact .inr (.tail _ h)
def zyb(h:p∈qi l):p∈l:=by
 unfold qi at h
 split at h
 ·exact List.dropLast_subset l h
 exact h
def zEy(x:Pt):ye l x≠[]:=by
 unfold ye;split
 ·rename_i h;intro e;rw[e]at h;cases h
 simp
def ztv:∀(more:LR) {l:LR},l≠[]->qj l more≠[]
 |[],_,h=>h
 |x::r,l,_=>ztv r (zEy x)
def zBh(h:l≠[]):qi l≠[]:=by
 unfold qi;split
 ·rename_i k;intro e;have:l.dropLast.length=0:=by rw[e];rfl
  rw[QY]at this;omega
 exact h
def zyc(l:LR)(x:Pt):(ye l x).getLast?=some x:=by
 unfold ye;split
 ·assumption
 simp
def zvp(h:yd l)(h1:1<(qi l).length):(qi l).getLast?≠(qi l).head?:=by
 unfold qi at h1 ⊢
 split
 ·rename_i k;rw[Xe k]at h1;rw[QY]at h1;intro e
  -- l=d++[z]
  obtain⟨d,z,rfl⟩:∃d z,l=d++[z]:=⟨l.dropLast,l.getLast (by intro h;rw[h]at k;simp at k),(JK _).symm⟩;rw[JE]at e;simp at h1;obtain⟨d',y,rfl⟩:∃d' y,d=d'++[y]:=⟨d.dropLast,d.getLast (by intro h;rw[h]at h1;simp at h1),(JK _).symm⟩;have e1:(d'++[y]++[z]).head?=(d'++[y]).head?:=by cases d' <;> rfl
  rw[e1,←e]at k;have e2:=k.2;rw[JG,JG]at e2;have e3:z=y:=Xl e2;clear e e1 k h1 e2
  induction d' with
  |nil=>exact h.1 z rfl e3.symm
  |cons w d' ih=>exact ih h.2
 rename_i k;rw[Xb k]at h1;intro e;exact k ⟨h1,e⟩
def InvP(lo hi:Pt)(S:List Pl)(last:Int):Prop:=
 (S=[]/\last=5∨∃cl p,S=cl++[p]/\(p.cl=true↔last=5))/\∀q∈S,q.pts≠[]/\yd q.pts/\∀z∈q.pts,inB lo hi z
def zvq(h:l≠[]):zhG l∈l:=by
 unfold zhG;rw[J4,List.getLast?_eq_some_getLast h];exact List.getLast_mem h
def zrK{s:Sg}(h:s.v=1∨s.v=2):z9 s=[s.a]:=by
 unfold z9
 rcases h with h|h <;> rw[h] <;> rfl
def zEz{s:Sg}(h:s.v=3):z9 s=[s.a,s.b]:=by unfold z9;rw[h];rfl
def zEA{s:Sg}(h:s.v=4):z9 s=[s.a,s.b,s.c]:=by unfold z9;rw[h];rfl
def zEB{s:Sg}(he:0<=nm s.v)(h5:s.v≠5)(hp:inB lo hi p)(hs:∀q∈z9 s,inB lo hi q)(h0:(jK p s tol).2=0):∀q∈(jK p s tol).1,inB lo hi q:=by
 unfold jK at h0 ⊢
 rcases zlF he with h|h|h|h|h
 ·rw[Xb oM,Xb oM]at h0 ⊢;intro q hq;rw[zrK (.inl h)]at hs;exact hs q hq
 ·rw[Xb oM,Xb oM]at h0 ⊢;intro q hq;rw[zrK (.inr h)]at hs;exact hs q hq
 ·rw[Xe h]at h0 ⊢;rw[zEz h]at hs
  exact zx9 h0 λq hq=>by
   cases hq with
   |head=>exact hp
   |tail _ hq=>exact hs q hq
 ·rw[Xb oM,Xe h]at h0 ⊢;rw[zEA h]at hs
  exact zya h0 λq hq=>by
   cases hq with
   |head=>exact hp
   |tail _ hq=>exact hs q hq
 exact absurd h h5
variable{last:Int}
def zyd{x:Sg}(h:InvP lo hi S last)(he:qO last x=0)(hx:∀p∈z9 x,inB lo hi p)(h0:(jq tol (S,0) x).2=0):InvP lo hi (jq tol (S,0) x).1 x.v:=by
 obtain⟨e1,e2,e3⟩:=vg.1 he;rw[zfU]at h0 ⊢
 by_cases h1:x.v=1
 ·rw[Xe h1]at h0 ⊢;refine⟨.inr ⟨S,_,rfl,⟨λk=>(by cases k),λk=>by omega⟩⟩,λq hq=>?_⟩
  rcases Xr.1 hq with hq|hq
  ·exact h.2 q hq
  have:=Xu.1 hq;subst this;refine⟨sI,⟨λ_ h=>(by cases h),tV⟩,λz hz=>?_⟩;have:=Xu.1 hz;subst this;exact hx _ (by rw[zrK (.inl h1)];exact .head _)
 rw[Xb h1]at h0 ⊢;obtain⟨hl,hv⟩:=e2.resolve_left h1;obtain⟨cl,p,rfl,hc⟩:∃cl p,S=cl++[p]/\(p.cl=true↔last=5):=h.1.resolve_left (λk=>hl k.2);have eg:(cl++[p]).getLastD ⟨[],false⟩=p:=by simp
 rw[eg]at h0 ⊢
 by_cases h2:(zbv p x tol).2≠0
 ·rw[Xe h2]at h0;exact absurd h0 h2
 rw[Xb h2]at h0 ⊢;have h2:=Xc.1 h2;obtain⟨p1,p2,p3⟩:=h.2 p sI;rw[JE]
 have hg:((zbv p x tol).1.cl=true↔x.v=5)/\(zbv p x tol).1.pts≠[]/\yd (zbv p x tol).1.pts/\∀z∈(zbv p x tol).1.pts,inB lo hi z:=by
  unfold zbv at h2 ⊢
  by_cases h5:x.v=5
  ·rw[Xe h5];exact⟨⟨λ_=>h5,λ_=>rfl⟩,zBh p1,zjH p2,λz hz=>p3 z (zyb hz)⟩
  rw[Xb h5]at h2 ⊢
  by_cases h3:(jK (zhG p.pts) x tol).2≠0
  ·rw[Xe h3]at h2;exact absurd h2 h3
  rw[Xb h3]at h2 ⊢;have h3:=Xc.1 h3;refine⟨⟨λk=>absurd (hc.1 k) hl,λk=>absurd k h5⟩,ztv _ p1,zjF _ p2,λz hz=>?_⟩
  rcases zps _ hz with hz|hz
  ·exact p3 z hz
  exact zEB e1 h5 (p3 _ (zvq p1)) hx h3 z hz
 refine⟨.inr ⟨cl,_,rfl,hg.1⟩,λq hq=>?_⟩
 rcases Xr.1 hq with hq|hq
 ·exact h.2 q (KM _ hq)
 have:=Xu.1 hq;subst this;exact hg.2
def ztw(last:Int)(l:LW)(i:Nat):Int:=if i=0 then last else(l[i-1]?.map Sg.v).getD 0
def zrL{l:LW}{x:Sg}(h:l[i]?=some x):ztw last l (i+1)=x.v:=by
 unfold ztw;rw[Xb oM,show i+1-1=i by omega,h];rfl
def zye:∀{l:LW} {last:Int} {i:Nat} {x:Sg},oks last l->l[i]?=some x->qO (ztw last l i) x=0
 |[],_,i,_,_,h=>by simp at h
 |s::r,last,0,x,h,hx=>by cases hx;exact h.1
 |s::r,last,i+1,x,h,hx=>by
  have hx:r[i]?=some x:=hx;have:=zye h.2 hx
  cases i with
  |zero=>exact this
  |succ i=>exact this
def zb9{l:LW}{tol:Int}{i:Nat}{x:Sg}(h:l[i]?=some x):jm (l.take (i+1)) tol=jq tol (jm (l.take i) tol) x:=by
 unfold jm;rw[Xm,h];simp[Qg]
def zpt{tol:Int}:∀(r:LW) {st:List Pl×Int},st.2≠0->r.foldl (jq tol) ([],st.2)=([],st.2)
 |[],_,_=>rfl
 |x::r,st,h=>by
  rw[KH];have:jq tol ([],st.2) x=([],st.2):=by unfold jq;rw[Xe h]
  rw[this];exact zpt r (st:=st) h
def zyf{st:List Pl×Int}{x:Sg}(h:(jq tol st x).2≠0):jq tol st x=([],(jq tol st x).2):=by
 unfold jq at h ⊢
 split
 ·rfl
 rename_i h0;rw[Xb h0]at h
 split
 ·rename_i h1;rw[Xe h1]at h;exact absurd rfl h
 rename_i h1;rw[Xb h1]at h
 split
 ·rfl
 rename_i h2;rw[Xb h2]at h;exact absurd rfl h
def zvr{l:LW}{x:Sg}(hx:l[i]?=some x)(h:(jm (l.take (i+1)) tol).2≠0):jm l tol=([],(jm (l.take (i+1)) tol).2):=by
 have e:jm l tol=(l.drop (i+1)).foldl (jq tol) (jm (l.take (i+1)) tol):=by
  unfold jm;rw[←Qg,KG]
 rw[e];rw[zb9 hx]at h ⊢;rw[zyf h];exact zpt _ (st:=jq tol (jm (l.take i) tol) x) h
def zjI{lo hi:Pt}{l:LW}{tol:Int}(hv:oks 5 l)(hb:∀p∈qp l,inB lo hi p):∀i,i<=l.length->(jm (l.take i) tol).2=0->InvP lo hi (jm (l.take i) tol).1 (ztw 5 l i)
 |0,_,_=>⟨.inl ⟨rfl,rfl⟩,λq hq=>(by cases hq)⟩
 |i+1,hi',h=>by
  have hx:l[i]?=some l[i]:=Xa oM;rw[zb9 hx]at h ⊢
  by_cases h0:(jm (l.take i) tol).2=0
  ·have ih:=zjI hv hb i oM h0;rw[zrL hx];have e:jm (l.take i) tol=((jm (l.take i) tol).1,0):=by rw[←h0]
   rw[e]at h ⊢;exact zyd ih (zye hv hx) (λp hp=>hb p (Qn.2 ⟨_,X5 _,hp⟩)) h
  unfold jq at h;rw[Xe h0]at h;exact absurd h h0
def qF(d:LU)(i:Nat):Int:=256*(d.take i).sum
def uh(d:LU):Int:=256*d.sum
def zhI:LU->Int->Nat->Nat×Int
 |[],_,_=>(0,0)
 |e::r,k,i=>if k<256*e then(i,256*e-k) else zhI r (k-256*e) (i+1)
def phD(pen:Pen)(t:Int):Int:=(t%uh pen.d+(256*pen.ph)%uh pen.d)%uh pen.d
def onD(pen:Pen)(t:Nat):Prop:=(zhI pen.d (phD pen t) 0).1%2=0
instance (pen:Pen) (t:Nat):Decidable (onD pen t):=inferInstanceAs (Decidable (_=_))
def vD(d:LU):qF d d.length=uh d:=by unfold qF uh;rw[Kf]
def vi{d:LU}{e:Int}(h:d[i]?=some e):qF d (i+1)=qF d i+256*e:=by
 unfold qF;rw[Xm,h];simp[Ji]
def vj(d:LU):qF d 0=0:=rfl
def zjJ:∀{d:LU},(∀n∈d,0<=n)->0<=d.sum
 |[],_=>dC
 |e::r,h=>by
  rw[Q8];have:=h e (.head _);have:=zjJ (d:=r) λn hn=>h n (.tail _ hn)
  omega
def zyg:∀{d:LU},(∀n∈d,n<=1048576)->d.sum<=1048576*(d.length:Int)
 |[],_=>dC
 |e::r,h=>by
  rw[Q8,Xq];have:=h e (.head _);have:=zyg (d:=r) λn hn=>h n (.tail _ hn)
  omega
def zgX{d:LU}(h:∀n∈d,0<=n){i j:Nat}(hij:i<=j):qF d i<=qF d j:=by
 unfold qF
 have e:d.take j=d.take i++(d.take j).drop i:=by
  have:=(KG i (d.take j)).symm
  rwa [YB,Qj hij]at this
 rw[e,QP];have:=zjJ (d:=(d.take j).drop i) λn hn=>h n (XQ (KZ hn))
 omega
def zig:∀{d:LU} {i i0:Nat} {k e:Int},(∀n∈d,0<=n)->d[i]?=some e->qF d i<=k->k<qF d i+256*e->zhI d k i0=(i0+i,qF d i+256*e-k)
 |[],i,_,_,_,_,h,_,_=>by simp at h
 |a::r,0,i0,k,e,hn,h,h1,h2=>by
  cases h
  rw[vj] at*;unfold zhI;rw[Xe oM];simp
 |a::r,i+1,i0,k,e,hn,h,h1,h2=>by
  have h:r[i]?=some e:=h;have e1:qF (a::r) (i+1)=256*a+qF r i:=by unfold qF;rw[Ko,Q8,Ji]
  have hm:=zgX (d:=r) (λn hn'=>hn n (.tail _ hn')) (Xg i);rw[vj]at hm;rw[e1]at h1 h2 ⊢;unfold zhI;rw[Xb oM,zig (λn hn'=>hn n (.tail _ hn')) h oM oM];exact Prod.ext oN oN
def ztx:∀{d:LU} {k:Int},(∀n∈d,0<=n)->0<=k->k<uh d->∃i e,d[i]?=some e/\qF d i<=k/\k<qF d i+256*e
 |[],k,_,h0,h=>by unfold uh at h;simp at h;omega
 |a::r,k,hn,h0,h=>by
  by_cases c:k<256*a
  ·exact⟨0,a,rfl,h0,by rw[vj];omega⟩
  have e1:uh (a::r)=256*a+uh r:=by unfold uh;rw[Q8,Ji]
  obtain⟨i,e,g1,g2,g3⟩:=ztx (d:=r) (k:=k-256*a) (λn hn'=>hn n (.tail _ hn')) oM oM;have e2:qF (a::r) (i+1)=256*a+qF r i:=by unfold qF;rw[Ko,Q8,Ji]
  exact⟨i+1,e,g1,oM,oM⟩
def qy(on:LG)[DecidablePred on]:Nat->List (Nat×Nat)×Option Nat
 |0=>([],none)
 |t+1=>if on t then((qy on t).1,some ((qy on t).2.getD t)) else((qy on t).1++((qy on t).2.map λf=>(f,t)).toList,none)
def zfV(on:LG)[DecidablePred on](t:Nat):List (Nat×Nat):=(qy on t).1++((qy on t).2.map λf=>(f,t)).toList
end
section
variable{on:LG}[DecidablePred on]
def zag(t:Nat):qy on (t+1)=if on t then((qy on t).1,some ((qy on t).2.getD t)) else((qy on t).1++((qy on t).2.map λf=>(f,t)).toList,none):=rfl
def zEC{a b:Nat}(hab:a<b)(h:∀t,a<=t->t<b->on t):qy on b=((qy on a).1,some ((qy on a).2.getD a)):=by
 obtain⟨k,rfl⟩:∃k,b=a+1+k:=⟨b-a-1,oM⟩
 induction k with
 |zero=>rw[show a+1+0=a+1 from rfl,zag,Xe (h a (Xi _) oM)]
 |succ k ih=>
  rw[show a+1+(k+1)=(a+1+k)+1 from rfl,zag,Xe (h _ oM oM),ih oM λt h1 h2=>h t h1 oM];rfl
def zBi{a b:Nat}(hab:a<b)(h:∀t,a<=t->t<b->¬on t):qy on b=(zfV on a,none):=by
 obtain⟨k,rfl⟩:∃k,b=a+1+k:=⟨b-a-1,oM⟩
 induction k with
 |zero=>rw[show a+1+0=a+1 from rfl,zag,Xb (h a (Xi _) oM)];rfl
 |succ k ih=>
  rw[show a+1+(k+1)=(a+1+k)+1 from rfl,zag,Xb (h _ oM oM),ih oM λt h1 h2=>h t h1 oM];exact Prod.ext (XM _) rfl
def zpu{a:Nat}:∀k,∃r,(qy on (a+k)).1=(qy on a).1++r
 |0=>⟨[],sI⟩
 |k+1=>by
  obtain⟨r,hr⟩:=zpu (a:=a) k;rw[show a+(k+1)=(a+k)+1 from rfl,zag]
  split
  ·exact⟨r,hr⟩
  exact⟨r++_,by rw[←XS,←hr]⟩
def zyh{a b:Nat}(hab:a<=b):∃r,zfV on b=(qy on a).1++r:=by
 obtain⟨k,rfl⟩:∃k,b=a+k:=⟨b-a,oM⟩;obtain⟨r,hr⟩:=zpu (on:=on) (a:=a) k;exact⟨r++_,by unfold zfV;rw[hr,XS]⟩
def zlM:∀t,(∀q∈(qy on t).1,q.1<q.2/\q.2<t)/\∀f,(qy on t).2=some f->f<t
 |0=>⟨λq hq=>(by cases hq),λf h=>(by cases h)⟩
 |t+1=>by
  have ih:=zlM t;rw[zag]
  split
  ·refine⟨λq hq=>⟨(ih.1 q hq).1,by have:=(ih.1 q hq).2;omega⟩,λf hf=>?_⟩;have hf:=Xl hf
   cases ho:(qy on t).2 with
   |none=>rw[ho]at hf;simp at hf;omega
   |some f'=>rw[ho]at hf;simp at hf;have:=ih.2 f' ho;omega
  refine⟨λq hq=>?_,λf hf=>by cases hf⟩
  rcases Xr.1 hq with hq|hq
  ·exact⟨(ih.1 q hq).1,by have:=(ih.1 q hq).2;omega⟩
  cases ho:(qy on t).2 with
  |none=>rw[ho]at hq;cases hq
  |some f'=>
   rw[ho]at hq;have:=Xu.1 hq;subst this;exact⟨ih.2 f' ho,oN⟩
def zrM{t:Nat}:∀q∈zfV on t,q.1<q.2/\q.2<=t:=λq hq=>by
 have h:=zlM (on:=on) t
 rcases Xr.1 hq with hq|hq
 ·exact⟨(h.1 q hq).1,by have:=(h.1 q hq).2;omega⟩
 cases ho:(qy on t).2 with
 |none=>rw[ho]at hq;cases hq
 |some f'=>
  rw[ho]at hq;have:=Xu.1 hq;subst this;exact⟨h.2 f' ho,Xi _⟩
end
def drawn(d:LU):Int:=256*((List.range d.length).map λi=>if i%2=0 then d.getD i 0 else 0).sum
def qt(pen:Pen)(long:Int):List (Nat×Nat):=
 if¬kV pen∨long<1∨(0<uh pen.d/\drawn pen.d=0) then[]
 else if uh pen.d=drawn pen.d then[(0,long.toNat)] else zfV (onD pen) long.toNat
def znB(a b:Pt):Int:=zxR (zns b a)
def qP(p:Pl):LR:=if p.cl=true/\2<=(zL p).pts.length then(zL p).pts++[nth (zL p).pts 0] else(zL p).pts
def atS(c:LR):Nat->Int
 |0=>0
 |i+1=>atS c i+znB (nth c i) (nth c (i+1))
def qf(p:Pl):Int:=atS (qP p) ((qP p).length-1)
def zkY(c:LR)(x:Int):Nat->Nat
 |0=>0
 |i+1=>if x<atS c (i+1) then zkY c x i else i+1
def zh1(c:LR)(x:Int):Pt:=
 let i:=zkY c x (c.length-2)
 zlD (nth c i) (nth c (i+1)) (x-atS c i) (atS c (i+1)-atS c i)
def zpv(c:LR)(f t:Int)(n:Nat):LR:=((List.range n).filter λi=>decide (f<atS c i/\atS c i<t)).map (nth c)
def zed(c:LR)(f t:Int):LR:=qj [] ([zh1 c f]++zpv c f t (c.length-1)++[zh1 c t])
def yF(p:Pl)(q:Nat×Nat):Pl:=if p.cl=true/\q.1=0/\(q.2:Int)=qf p then zL p else⟨zed (qP p) q.1 q.2,false⟩
def jV(p:Pl)(pen:Pen):List Pl×Int:=
 if¬kV pen then([],13) else if¬∀q∈p.pts,zm q then([],6) else if 4096<p.pts.length then([],5)
 else if pen.d=[] then([zL p],0)
 else if 4096<yo ((qt pen (qf p)).map (yF p)) then([],5) else((qt pen (qf p)).map (yF p),0)
def goP(t:AF)(p:Pt):Pt:=⟨(zcu t (p.x:Rat) (p.y:Rat)+Rat.divInt 1 2).floor,(zcv t (p.x:Rat) (p.y:Rat)+Rat.divInt 1 2).floor⟩
def kU(t:AF)(p:Pt):Pt×Int:=if¬t.ok then(zp,5) else if¬zm p then(zp,6) else if zm (goP t p) then(goP t p,0) else(zp,6)
def zdX(t:AF)(p:Pt)(ht:t.le 100000):CX 259 [wo t,wk p] (.tup [wk (kU t p).1,i64 (kU t p).2]):=by
 obtain⟨ha,hb,hc,hd,he,hf⟩:=ht;refine zd func259 ?_;have fin:∀(q:Pt) (n:Int),(kU t p)=(q,n)->LE (.tup [wk q,i64 n]) (.tup [wk (kU t p).1,i64 (kU t p).2]):=λq n h=>by rw[h];exact .refl
 refine wg (zfK t ⟨oM,oM,oM,oM,oM,oM⟩)<|⟨λh1=>?_,λh1=>?_⟩
 ·exact fin zp 5 (by rw[kU,Xe h1])
 refine wg (kC p)<|⟨λh2=>?_,λh2=>?_⟩
 ·exact fin zp 6 (by rw[kU,Xb h1,Xe h2])
 have hp:zm p:=Km h2;have hx:R64 p.x:=by unfold R64;unfold zm at hp;omega
 have hy:R64 p.y:=by unfold R64;unfold zm at hp;omega
 have lx:=zjp p.x;have ly:=zjp p.y;have zx:=zaz hx;have zy:=zaz hy;refine wc<|wg (j7 p.x hx)<|wg (j7 p.y hy)<|wg (ztf t (ofQ (p.x:Rat)) (ofQ (p.y:Rat)) ⟨oM,oM,oM,oM,oM,oM⟩ (by rw[zO];omega) (by rw[zO];omega)) ?_;rw[kA,kA];have lX:=j8 t.a (ofQ (p.x:Rat)) t.c (ofQ (p.y:Rat)) t.e (n:=100000) ha (by rw[zO];omega) hc (by rw[zO];omega) he;have lY:=j8 t.b (ofQ (p.x:Rat)) t.d (ofQ (p.y:Rat)) t.f (n:=100000) hb (by rw[zO];omega) hd (by rw[zO];omega) hf;rw[kA,kA]at lX lY
 have lh:yJ (Rat.divInt 1 2)<=1:=by decide +kernel
 have mX:=zc3 (zcu t p.x p.y) (Rat.divInt 1 2);have mY:=zc3 (zcv t p.x p.y) (Rat.divInt 1 2);have lX2:yJ (zcu t p.x p.y)<=500007:=lX.2;have lY2:yJ (zcv t p.x p.y)<=500007:=lY.2
 have fl:∀q:Rat,jc q.floor<=yJ q:=λq=>XE (zdN (by
  rw[Rat.floor_def]
  exact J3 _ _)) (qe q)
 have fX:=fl (zcu t p.x p.y+Rat.divInt 1 2);have fY:=fl (zcv t p.x p.y+Rat.divInt 1 2);refine wg (zrx 1 2 dC dC dC)<|wg (zo6 (ofQ (zcu t p.x p.y)) (ofQ (Rat.divInt 1 2)) (by rw[zO];omega) (by rw[zO];omega)) ?_;rw[kA,kA];refine wg (zte (ofQ (zcu t p.x p.y+Rat.divInt 1 2)) (by rw[zO];omega)) ?_;rw[kA];refine wg (ztc (ofZ (zcu t p.x p.y+Rat.divInt 1 2).floor) (by rw[zT];omega))<|wg (zo6 (ofQ (zcv t p.x p.y)) (ofQ (Rat.divInt 1 2)) (by rw[zO];omega) (by rw[zO];omega)) ?_;rw[kA,kA]
 refine wg (zte (ofQ (zcv t p.x p.y+Rat.divInt 1 2)) (by rw[zO];omega)) ?_;rw[kA];refine wg (ztc (ofZ (zcv t p.x p.y+Rat.divInt 1 2).floor) (by rw[zT];omega)) ?_;rw[zY,zY];obtain⟨X,hX⟩:∃X,(zcu t p.x p.y+Rat.divInt 1 2).floor=X:=⟨_,rfl⟩;obtain⟨Y,hY⟩:∃Y,(zcv t p.x p.y+Rat.divInt 1 2).floor=Y:=⟨_,rfl⟩;have hg:goP t p=⟨X,Y⟩:=by unfold goP;rw[hX,hY]
 rw[hX,hY];have out:¬zm ⟨X,Y⟩->kU t p=(zp,6):=λh=>by rw[kU,Xb h1,Xb h2,Xb (by rw[hg];exact h)]
 have inn:zm ⟨X,Y⟩->kU t p=(⟨X,Y⟩,0):=λh=>by rw[kU,Xb h1,Xb h2,Xe (by rw[hg];exact h),hg]
 have big:zm ⟨X,Y⟩->(-9223372036854775808<=X/\X<=9223372036854775807)/\(-9223372036854775808<=Y/\Y<=9223372036854775807):=λh=>by unfold zm at h;dsimp only at h;omega
 refine⟨λh3=>?_,λh3=>?_⟩
 ·refine⟨λh4=>?_,λh4=>?_⟩
  ·refine wg (kC ⟨zaT X,zaT Y⟩) ?_;rw[zaT,Xe h3,zaT,Xe h4];refine⟨λh5=>?_,λh5=>?_⟩
   ·exact fin ⟨X,Y⟩ 0 (inn h5)
   exact fin zp 6 (out h5)
  exact fin zp 6 (out λh=>h4 (big h).2)
 exact fin zp 6 (out λh=>h3 (big h).1)
abbrev ws(x:Pen):SV:=.agg (yK x)
abbrev LY:=List Pl
end Go.Gs
