/- A path turned round twice is the path; its points, its bounds and its subpaths; the law. -/
import Derived.Test.YtakicgnbhdpknaaGreatDoorPAT
set_option maxRecDepth 100000
set_option maxHeartbeats 8000000
set_option linter.all false
namespace Go.Gs
open Proofs.Tryz
open Go.Proofs
def zp_ok:zm zp:=dC
def zvq:∀(q:LU) (p:Pt),((q.foldl mnP p).x<=p.x/\(q.foldl mnP p).y<=p.y)/\(∀r∈q,(q.foldl mnP p).x<=r.x/\(q.foldl mnP p).y<=r.y)/\
  ((q.foldl mnP p).x=p.x∨∃r∈q,(q.foldl mnP p).x=r.x)/\((q.foldl mnP p).y=p.y∨∃r∈q,(q.foldl mnP p).y=r.y)
 |[],p=>⟨⟨K9 _,K9 _⟩,λr b=>(by cases b),.inl rfl,.inl rfl⟩
 |a::q,p=>by
  obtain⟨j,e,c,d⟩:=zvq q (mnP p a);rw[Qm];have f:(mnP p a).x=min p.x a.x:=rfl;have g:(mnP p a).y=min p.y a.y:=rfl;refine⟨⟨oM,oM⟩,λr b=>?_,?_,?_⟩
  .rcases XH.1 b with rfl|b
   .exact⟨oM,oM⟩
   exact e r b
  .rcases c with c|⟨r,b,c⟩
   .rcases Jp p.x a.x with h|h
    .exact .inl oM
    exact .inr ⟨a,.head _,oM⟩
   exact .inr ⟨r,.tail _ b,c⟩
  rcases d with d|⟨r,b,d⟩
  .rcases Jp p.y a.y with h|h
   .exact .inl oM
   exact .inr ⟨a,.head _,oM⟩
  exact .inr ⟨r,.tail _ b,d⟩
def zvr:∀(q:LU) (p:Pt),(p.x<=(q.foldl mxP p).x/\p.y<=(q.foldl mxP p).y)/\(∀r∈q,r.x<=(q.foldl mxP p).x/\r.y<=(q.foldl mxP p).y)/\
  ((q.foldl mxP p).x=p.x∨∃r∈q,(q.foldl mxP p).x=r.x)/\((q.foldl mxP p).y=p.y∨∃r∈q,(q.foldl mxP p).y=r.y)
 |[],p=>⟨⟨K9 _,K9 _⟩,λr b=>(by cases b),.inl rfl,.inl rfl⟩
 |a::q,p=>by
  obtain⟨j,e,c,d⟩:=zvr q (mxP p a);rw[Qm];have f:(mxP p a).x=max p.x a.x:=rfl;have g:(mxP p a).y=max p.y a.y:=rfl;refine⟨⟨oM,oM⟩,λr b=>?_,?_,?_⟩
  .rcases XH.1 b with rfl|b
   .exact⟨oM,oM⟩
   exact e r b
  .rcases c with c|⟨r,b,c⟩
   .rcases Jp p.x a.x with h|h
    .exact .inr ⟨a,.head _,oM⟩
    exact .inl oM
   exact .inr ⟨r,.tail _ b,c⟩
  rcases d with d|⟨r,b,d⟩
  .rcases Jp p.y a.y with h|h
   .exact .inr ⟨a,.head _,oM⟩
   exact .inl oM
  exact .inr ⟨r,.tail _ b,d⟩
def inR(n:Int):Prop:= -4096<=n/\n<=4096
instance (n:Int):Decidable (inR n):=wi
def rok(a b c d:Int):Prop:=inR a/\inR b/\inR c/\inR d/\a<c/\b<d
instance (a b c d:Int):Decidable (rok a b c d):=wi
def za1(a b c d:Int):LX:=if rok a b c d then[⟨1,⟨a*256,b*256⟩,zp,zp⟩,⟨2,⟨c*256,b*256⟩,zp,zp⟩,⟨2,⟨c*256,d*256⟩,zp,zp⟩,⟨2,⟨a*256,d*256⟩,zp,zp⟩,ztP] else[]
def reE(a b c d:Int):LR:=[i64 a,i64 b,i64 c,i64 d]
def zM(n:Int):LR:=[i64 n]
def zGd{α:Type}{enc:α->LR}:LE nS (.sl enc []):=λS Pm O w v a=>by
 rw[a.val_inv];exact .d _ _ (.nil enc none)
def zDe(a b c d:Int):CX 119 [.agg (reE a b c d)] (pr (¬rok a b c d)):=by
 refine zc func119<|⟨Int,zM,[a,b,c,d],rfl,wb0 ?_⟩;intro _
 refine⟨Nat,λi=>⟨[(15,i64 i),(14,i64 4),(13,.own 1),(1,.loc 0 0)],[(1,.arr 3 zM 1 [a,b,c,d]),(0,.box 47 (reE a b c d))],2,38,0⟩,
  λi=>i<=4/\∀(j:Nat) n,j<i->[a,b,c,d][j]?=some n->inR n,λi=>4-i,0,⟨oM,λj n w=>by omega⟩,zf [0,1],?_⟩
 rintro i ⟨s,f⟩
 refine⟨λk:(i:Int)<4=>?_,λk:¬(i:Int)<4=>?_⟩
 .refine Ob.mk ⟨oM,k⟩<|Ob.mk ⟨oM,k⟩ λn g=>?_;have g:[a,b,c,d][i]?=some n:=g
  have out:¬inR n->¬rok a b c d:=λy ⟨A,B,C,D,_⟩=>y (by
   have:i=0∨i=1∨i=2∨i=3:=oM
   rcases this with rfl|rfl|rfl|rfl <;> (cases g;assumption))
  refine⟨λo=>zH (out λh=>by have:=h.1;omega),λo=>?_⟩;refine⟨λp=>zH (out λh=>by have:=h.2;omega),λp=>?_⟩;refine wa ?_
  exact⟨i+1,⟨oM,λj m w q=>by
   by_cases e:j=i
   .subst e;rw[g]at q;cases q;exact⟨oM,oM⟩
   exact f j m oM q⟩,zf [0,1],oN⟩
 have t:=f 0 a oM rfl;have s:=f 1 b oM rfl;have o:=f 2 c oM rfl;have p:=f 3 d oM rfl;refine⟨λu=>zH λh=>by have:=h.2.2.2.2.1;omega,λu=>?_⟩;refine zB ⟨λz h=>by have:=h.2.2.2.2.2;omega,λh=>?_⟩
 by_cases v:d<=b
 .exact v
 exact absurd ⟨t,s,o,p,oM,oM⟩ h
def c_at(x y:Int)(a:inR x)(b:inR y):CX 120 [i64 x,i64 y] (wk ⟨x*256,y*256⟩):=by
 refine zc func120 ?_;unfold inR at a b;(iterate 2 refine wa ?_);exact .refl
def ztQ(a b c d:Int):CX 83 [.agg (reE a b c d)] (.sl sgE (za1 a b c d)):=by
 refine zc func83 ?_;have fin:∀{L:LX} {s:SV},za1 a b c d=L->LE s (.sl sgE L)->LE s (.sl sgE (za1 a b c d)):=λe h=>e ▸ h
 refine wg (zDe a b c d)<|⟨λh=>fin (Xc h) zGd,λh=>?_⟩;have h:=Xa.1 h;have hL:=show za1 a b c d=_ from Xe h;obtain⟨f,g,j,k,_⟩:=h;refine wc<|wg (c_at a b f g)<|wg (c_at c b j g)<|wg (c_at c d j k)<|wg (c_at a d f k)<|⟨Sg,sgE,[⟨1,⟨a*256,b*256⟩,zp,zp⟩,⟨2,⟨c*256,b*256⟩,zp,zp⟩,⟨2,⟨c*256,d*256⟩,zp,zp⟩,⟨2,⟨a*256,d*256⟩,zp,zp⟩,ztP],(by kernel_rfl),wb0 ?_⟩;exact fin hL (z6 rfl)
def zpm(n:Int):CX 103 [i64 n] (pr (inR n)):=by
 refine zc func103 ?_;refine⟨λh=>zB ⟨λk=>⟨h,k⟩,λk=>k.2⟩,λh=>zd λk=>h k.1⟩
def zxe(a b c d:Int):CX 68 [.agg (reE a b c d)] (pr (inR a/\inR b/\inR c/\inR d)):=by
 refine zc func68<|wg (zpm a)<|⟨λe=>?_,λe=>zd λk=>e k.1⟩;refine wg (zpm b)<|⟨λf=>?_,λf=>zd λk=>f k.2.1⟩;refine wg (zpm c)<|⟨λg=>?_,λg=>zd λk=>g k.2.2.1⟩;exact wg (zpm d)<|zB ⟨λh=>⟨e,f,g,h⟩,λk=>k.2.2.2⟩
def zz9(a b c d:Int):CX 38 [.agg (reE a b c d)] (pr (¬rok a b c d)):=by
 refine zc func38<|wg (zxe a b c d)<|⟨λh=>zH λk=>h ⟨k.1,k.2.1,k.2.2.1,k.2.2.2.1⟩,λh=>?_⟩;obtain⟨e,f,g,j⟩:=Xa.1 h;refine⟨λm=>zH λh=>by have:=h.2.2.2.2.1;omega,λm=>?_⟩;refine zB ⟨λo h=>by have:=h.2.2.2.2.2;omega,λh=>?_⟩
 by_cases n:d<=b
 .exact n
 exact absurd ⟨e,f,g,j,oM,oM⟩ h
def zjn(a b c d:Int):CX 41 [.agg (reE a b c d)] (.sl sgE (za1 a b c d)):=by
 refine zc func41 ?_;have fin:∀{L:LX} {s:SV},za1 a b c d=L->LE s (.sl sgE L)->LE s (.sl sgE (za1 a b c d)):=λe h=>e ▸ h
 refine wg (zz9 a b c d)<|⟨λh=>?_,λh=>?_⟩
 .refine⟨Sg,sgE,[],rfl,wb2 ?_⟩;exact fin (Xc h) .refl
 have h:=Xa.1 h;have hL:=show za1 a b c d=_ from Xe h;obtain⟨f,g,j,k,_⟩:=h;unfold inR at f g j k;refine wd ?_;(iterate 4 refine wa ?_);refine wh<|⟨Sg,sgE,[⟨1,⟨a*256,b*256⟩,zp,zp⟩,⟨2,⟨c*256,b*256⟩,zp,zp⟩,⟨2,⟨c*256,d*256⟩,zp,zp⟩,⟨2,⟨a*256,d*256⟩,zp,zp⟩,ztP],(by kernel_rfl),wb0 ?_⟩;exact fin hL (z6 rfl)
def jg(p:Pen):LR:=[i64 p.w,i64 p.j,i64 p.c,i64 p.m,.sl zM p.d,i64 p.ph]
def zej(l:LV)(i:Nat):Prop:=l=[]∨∃n∈l.take i,0<n
variable{l:LV}{i:Nat}{x:Int}
def zg6(h:l[i]?=some x):l.take (i+1)=l.take i++[x]:=by
 rw[Xm,h];rfl
def zc8(h:l[i]?=some x):zej l (i+1)↔zej l i∨0<x:=by
 unfold zej;rw[zg6 h];constructor
 .rintro(h|⟨n,a,b⟩)
  .exact .inl (.inl h)
  rcases Xt.1 a with a|a
  .exact .inl (.inr ⟨n,a,b⟩)
  rw[Xu]at a;exact .inr (a ▸ b)
 rintro((h|⟨n,a,b⟩)|h)
 .exact .inl h
 .exact .inr ⟨n,KZ _ a,b⟩
 exact .inr ⟨x,KS _ (Xu.2 rfl),h⟩
def zvs{l:LV}{i:Nat}(hi:l.length<=i)(a:∀n∈l.take i,0<=n/\n<=1048576):uB l↔zej l i/\l.length%2=0/\(l.length:Int)<=16:=by
 rw[Xi hi]at a;unfold uB zej;rw[Xi hi];exact⟨λh=>h.2,λh=>⟨a,h⟩⟩
def zg7(h:l[i]?=some x)(b:∀n∈l.take i,0<=n/\n<=1048576)(c:0<=x/\x<=1048576):∀n∈l.take (i+1),0<=n/\n<=1048576:=by
 rw[zg6 h];intro n a
 rcases Xt.1 a with a|a
 .exact b n a
 rw[Xu]at a;exact a ▸ c
def zlk(h:l[i]?=some x)(a:¬(0<=x/\x<=1048576)):¬uB l:=λk=>a (k.1 x (Xf h))
def vC(l:LV):CX 312 [.sl zM l] (pr (uB l)):=by
 refine zc func312 λp=>?_;intro q;refine⟨Nat×Bool,λz=>⟨[(3,bl z.2),(11,i64 (z.1:Int)),(10,i64 l.length),(9,.sl zM l),(0,.sl zM l)],[],0,39,0⟩,λz=>z.1<=l.length/\(z.2=true↔zej l z.1)/\∀n∈l.take z.1,0<=n/\n<=1048576,λz=>l.length-z.1,(0,decide (l=[])),?_,?_,?_⟩
 .refine⟨Xh _,?_,λn j=>by cases j⟩;show decide (l=[])=true↔_;unfold zej;rw[decide_eq_true_iff];exact⟨.inl,λh=>h.elim id (λ⟨n,j,_⟩=>by cases j)⟩
 .refine Sub.trans (qQ (t:=3) (s':=bl (decide (l=[]))) rfl (zu0 ?_)) (qI [] rfl rfl rfl ⟨rfl,rfl,rfl,rfl,rfl,tV⟩ trivial);rw[decide_eq_true_iff,←XP];omega
 rintro⟨i,b⟩ ⟨o,c,e⟩
 dsimp only at o c e;refine⟨λg:(i:Int)<l.length=>?_,λg:¬(i:Int)<l.length=>?_⟩
 .refine wb λx a=>?_;refine⟨λd=>zd (zlk a oM),λd=>?_⟩;refine⟨λm=>zd (zlk a oM),λm=>?_⟩;have a:l[i]?=some x:=a
  cases b with
  |true=>
   refine wa<|⟨(i+1,true),⟨oN,?_,zg7 a e oM⟩,zC [],oN⟩;exact⟨λ_=>(zc8 a).2 (.inl (c.1 rfl)),λ_=>rfl⟩
  |false=>
   refine wa<|⟨(i+1,decide (0<x)),⟨oN,?_,zg7 a e oM⟩,Sub.trans (qQ (t:=3) (s':=bl (decide (0<x))) rfl (zu0 ?_)) (qI [] rfl rfl rfl ⟨rfl,rfl,rfl,rfl,rfl,tV⟩ trivial),oN⟩
   .show decide (0<x)=true↔zej l (i+1);rw[decide_eq_true_iff,zc8 (show l[i]?=some x from a)];exact⟨.inr,λh=>h.elim (λk=>by have:=c.2 k;cases this) id⟩
   rw[decide_eq_true_iff]
 have f:=zvs (l:=l) (i:=i) oM e
 cases b with
 |false=>
  exact zd (λk=>by have:=c.2 (f.1 k).1;cases this)
 |true=>
  intro s;refine Dv.pos ⟨oM,oM⟩<|⟨λd=>?_,λd=>zd (λk=>d (by have:=(f.1 k).2.1;omega))⟩;intro u;exact zB ⟨λk=>f.2 ⟨c.1 rfl,oM,k⟩,λk=>(f.1 k).2.2⟩
def zAa(l:LV):CX 227 [.sl zM l] (pr (uB l)):=by
 refine zc func227 λp=>?_;refine⟨Nat×Bool,λz=>⟨[(3,bl z.2),(4,i64 (z.1:Int)),(0,.sl zM l)],[],0,40,0⟩,λz=>z.1<=l.length/\(z.2=true↔zej l z.1)/\∀n∈l.take z.1,0<=n/\n<=1048576,λz=>l.length-z.1,(0,decide (l=[])),?_,?_,?_⟩
 .refine⟨Xh _,?_,λn m=>by cases m⟩;show decide (l=[])=true↔_;unfold zej;rw[decide_eq_true_iff];exact⟨.inl,λh=>h.elim id (λ⟨n,m,_⟩=>by cases m)⟩
 .refine Sub.trans (qQ (t:=3) (s':=bl (decide (l=[]))) rfl (zu0 ?_)) (qI [] rfl rfl rfl ⟨rfl,rfl,rfl,tV⟩ trivial);rw[decide_eq_true_iff,←XP];omega
 rintro⟨i,b⟩ ⟨o,d,f⟩
 dsimp only at o d f;intro q;refine⟨λg:(i:Int)<l.length=>?_,λg:¬(i:Int)<l.length=>?_⟩
 .refine wb λx c=>wg (zaA x 0 1048576)<|⟨λa=>zd (zlk c a),λa=>?_⟩;have a:0<=x/\x<=1048576:=Xa.1 a;have c:l[i]?=some x:=c
  cases b with
  |true=>
   refine wa<|⟨(i+1,true),⟨oN,?_,zg7 c f a⟩,zC [],oN⟩;exact⟨λ_=>(zc8 c).2 (.inl (d.1 rfl)),λ_=>rfl⟩
  |false=>
   refine wb λy(v:l[i]?=some y)=>?_;have e:x=y:=Xl ((show l[i]?=some x from c).symm.trans v);subst e;refine wa<|⟨(i+1,decide (0<x)),⟨oN,?_,zg7 c f a⟩,Sub.trans (qQ (t:=3) (s':=bl (decide (0<x))) rfl (zu0 ?_)) (qI [] rfl rfl rfl ⟨rfl,rfl,rfl,tV⟩ trivial),oN⟩
   .show decide (0<x)=true↔zej l (i+1);rw[decide_eq_true_iff,zc8 (show l[i]?=some x from c)];exact⟨.inr,λh=>h.elim (λk=>by have:=d.2 k;cases this) id⟩
   rw[decide_eq_true_iff]
 have j:=zvs (l:=l) (i:=i) oM f
 cases b with
 |false=>
  exact zd (λk=>by have:=d.2 (j.1 k).1;cases this)
 |true=>
  intro s;refine⟨λa=>?_,λa=>zd (λk=>a (j.1 k).2.2)⟩;intro u;exact Dv.pos ⟨oM,oM⟩<|zB ⟨λk=>j.2 ⟨d.1 rfl,oM,a⟩,λk=>by have:=(j.1 k).2.1;omega⟩
def zjo(p:Pen):kE p↔((1<=p.w/\p.w<=16384)/\(p.j=1∨p.j=2∨p.j=3)/\(p.c=3∨p.c=4∨p.c=5)/\(256<=p.m/\p.m<=65536)/\(0<=p.ph/\p.ph<=1048576))/\uB p.d:=by
 unfold kE kq;exact⟨λh=>⟨⟨h.1,h.2.1,h.2.2.1,h.2.2.2.1,h.2.2.2.2.2⟩,h.2.2.2.2.1⟩,λh=>⟨h.1.1,h.1.2.1,h.1.2.2.1,h.1.2.2.2.1,h.2,h.1.2.2.2.2⟩⟩
def zc9(p:Pen):CX 156 [.agg (jg p)] (pr (kE p)):=by
 have a:=zjo p;refine zc func156<|wg (zpk p.w)<|⟨λb=>zd (λk=>b (a.1 k).1.1),λb=>?_⟩;refine wg (zaA p.j 1 3)<|⟨λf=>zd (λk=>by have:=(a.1 k).1;omega),λf=>?_⟩;refine wg (zaA p.c 3 5)<|⟨λg=>zd (λk=>by have:=(a.1 k).1;omega),λg=>?_⟩;refine wg (zaA p.m 256 65536)<|⟨λh=>?_,λh=>zd (λk=>by have:=(a.1 k).1;omega)⟩;refine wg (zAa p.d)<|⟨λe=>?_,λe=>zd (λk=>e (a.1 k).2)⟩
 exact wg (zaA p.ph 0 1048576)<|zB ⟨λk=>a.2 ⟨by unfold kq at b;omega,e⟩,λk=>by have:=(a.1 k).1;omega⟩
def ze5(p:Pen):CX 249 [.agg (jg p)] (pr (kE p)):=by
 have a:=zjo p;refine zc func249<|Br.mk (λm=>?_) (λm=>?_)
 ·
  refine⟨λc1=>?_,λc1=>?_⟩
  ·
   refine wg (zad p.w)<|⟨λc=>?_,λc=>zd (λk=>c (a.1 k).1.1)⟩;refine⟨λe=>?_,λe=>zd (λk=>by have:=(a.1 k).1;omega)⟩;refine⟨λf=>?_,λf=>zd (λk=>by have:=(a.1 k).1;omega)⟩;refine wg (vC p.d)<|⟨λb=>?_,λb=>zd (λk=>b (a.1 k).2)⟩;refine⟨λp1=>?_,λp1=>zd (λk=>by have:=(a.1 k).1;omega)⟩;exact zB ⟨λk=>a.2 ⟨by unfold kq at c;omega,b⟩,λk=>by have:=(a.1 k).1;omega⟩
  refine⟨λg=>?_,λg=>?_⟩
  ·
   refine wg (zad p.w)<|⟨λc=>?_,λc=>zd (λk=>c (a.1 k).1.1)⟩;refine⟨λe=>?_,λe=>zd (λk=>by have:=(a.1 k).1;omega)⟩;refine⟨λf=>?_,λf=>zd (λk=>by have:=(a.1 k).1;omega)⟩;refine wg (vC p.d)<|⟨λb=>?_,λb=>zd (λk=>b (a.1 k).2)⟩;refine⟨λp1=>?_,λp1=>zd (λk=>by have:=(a.1 k).1;omega)⟩;exact zB ⟨λk=>a.2 ⟨by unfold kq at c;omega,b⟩,λk=>by have:=(a.1 k).1;omega⟩
  refine wg (zad p.w)<|⟨λc=>?_,λc=>zd (λk=>c (a.1 k).1.1)⟩;refine⟨λh=>?_,λh=>zd (λk=>by have:=(a.1 k).1;omega)⟩;refine⟨λe=>?_,λe=>zd (λk=>by have:=(a.1 k).1;omega)⟩;refine⟨λf=>?_,λf=>zd (λk=>by have:=(a.1 k).1;omega)⟩;refine wg (vC p.d)<|⟨λb=>?_,λb=>zd (λk=>b (a.1 k).2)⟩;refine⟨λp1=>?_,λp1=>zd (λk=>by have:=(a.1 k).1;omega)⟩
  exact zB ⟨λk=>a.2 ⟨by unfold kq at c;omega,b⟩,λk=>by have:=(a.1 k).1;omega⟩
 refine⟨λn=>?_,λn=>?_⟩
 ·
  refine⟨λc1=>?_,λc1=>?_⟩
  ·
   refine wg (zad p.w)<|⟨λc=>?_,λc=>zd (λk=>c (a.1 k).1.1)⟩;refine⟨λe=>?_,λe=>zd (λk=>by have:=(a.1 k).1;omega)⟩;refine⟨λf=>?_,λf=>zd (λk=>by have:=(a.1 k).1;omega)⟩;refine wg (vC p.d)<|⟨λb=>?_,λb=>zd (λk=>b (a.1 k).2)⟩;refine⟨λp1=>?_,λp1=>zd (λk=>by have:=(a.1 k).1;omega)⟩;exact zB ⟨λk=>a.2 ⟨by unfold kq at c;omega,b⟩,λk=>by have:=(a.1 k).1;omega⟩
  refine⟨λg=>?_,λg=>?_⟩
  ·
   refine wg (zad p.w)<|⟨λc=>?_,λc=>zd (λk=>c (a.1 k).1.1)⟩;refine⟨λe=>?_,λe=>zd (λk=>by have:=(a.1 k).1;omega)⟩;refine⟨λf=>?_,λf=>zd (λk=>by have:=(a.1 k).1;omega)⟩;refine wg (vC p.d)<|⟨λb=>?_,λb=>zd (λk=>b (a.1 k).2)⟩;refine⟨λp1=>?_,λp1=>zd (λk=>by have:=(a.1 k).1;omega)⟩;exact zB ⟨λk=>a.2 ⟨by unfold kq at c;omega,b⟩,λk=>by have:=(a.1 k).1;omega⟩
  refine wg (zad p.w)<|⟨λc=>?_,λc=>zd (λk=>c (a.1 k).1.1)⟩;refine⟨λh=>?_,λh=>zd (λk=>by have:=(a.1 k).1;omega)⟩;refine⟨λe=>?_,λe=>zd (λk=>by have:=(a.1 k).1;omega)⟩;refine⟨λf=>?_,λf=>zd (λk=>by have:=(a.1 k).1;omega)⟩;refine wg (vC p.d)<|⟨λb=>?_,λb=>zd (λk=>b (a.1 k).2)⟩;refine⟨λp1=>?_,λp1=>zd (λk=>by have:=(a.1 k).1;omega)⟩
  exact zB ⟨λk=>a.2 ⟨by unfold kq at c;omega,b⟩,λk=>by have:=(a.1 k).1;omega⟩
 refine⟨λc1=>?_,λc1=>?_⟩
 ·
  refine wg (zad p.w)<|⟨λc=>?_,λc=>zd (λk=>c (a.1 k).1.1)⟩;refine⟨λj=>?_,λj=>zd (λk=>by have:=(a.1 k).1;omega)⟩;refine⟨λe=>?_,λe=>zd (λk=>by have:=(a.1 k).1;omega)⟩;refine⟨λf=>?_,λf=>zd (λk=>by have:=(a.1 k).1;omega)⟩;refine wg (vC p.d)<|⟨λb=>?_,λb=>zd (λk=>b (a.1 k).2)⟩;refine⟨λp1=>?_,λp1=>zd (λk=>by have:=(a.1 k).1;omega)⟩
  exact zB ⟨λk=>a.2 ⟨by unfold kq at c;omega,b⟩,λk=>by have:=(a.1 k).1;omega⟩
 refine⟨λg=>?_,λg=>?_⟩
 ·
  refine wg (zad p.w)<|⟨λc=>?_,λc=>zd (λk=>c (a.1 k).1.1)⟩;refine⟨λj=>?_,λj=>zd (λk=>by have:=(a.1 k).1;omega)⟩;refine⟨λe=>?_,λe=>zd (λk=>by have:=(a.1 k).1;omega)⟩;refine⟨λf=>?_,λf=>zd (λk=>by have:=(a.1 k).1;omega)⟩;refine wg (vC p.d)<|⟨λb=>?_,λb=>zd (λk=>b (a.1 k).2)⟩;refine⟨λp1=>?_,λp1=>zd (λk=>by have:=(a.1 k).1;omega)⟩
  exact zB ⟨λk=>a.2 ⟨by unfold kq at c;omega,b⟩,λk=>by have:=(a.1 k).1;omega⟩
 refine wg (zad p.w)<|⟨λc=>?_,λc=>zd (λk=>c (a.1 k).1.1)⟩;refine⟨λj=>?_,λj=>zd (λk=>by have:=(a.1 k).1;omega)⟩;refine⟨λh=>?_,λh=>zd (λk=>by have:=(a.1 k).1;omega)⟩;refine⟨λe=>?_,λe=>zd (λk=>by have:=(a.1 k).1;omega)⟩;refine⟨λf=>?_,λf=>zd (λk=>by have:=(a.1 k).1;omega)⟩;refine wg (vC p.d)<|⟨λb=>?_,λb=>zd (λk=>b (a.1 k).2)⟩
 refine⟨λp1=>?_,λp1=>zd (λk=>by have:=(a.1 k).1;omega)⟩;exact zB ⟨λk=>a.2 ⟨by unfold kq at c;omega,b⟩,λk=>by have:=(a.1 k).1;omega⟩
abbrev S50(n:Int):Prop:= -1125899906842624<=n/\n<=1125899906842624
def zll(p q:Pt)(a:S50 p.x/\S50 p.y)(b:S50 q.x/\S50 q.y):CX 438 [wk p,wk q] (wk (zo p q)):=by
 refine zc func438 ?_;(iterate 2 refine wa ?_);exact .refl
def zf5(p q:Pt)(a:S50 p.x/\S50 p.y)(b:S50 q.x/\S50 q.y):CX 439 [wk p,wk q] (wk (zw p q)):=by
 refine zc func439 ?_;(iterate 2 refine wa ?_);exact .refl
def zir(p q:Pt)(a:S50 p.x/\S50 p.y)(b:S50 q.x/\S50 q.y):CX 457 [wk p,wk q] (wk (zo p q)):=by
 refine zc func457 ?_;(iterate 2 refine wa ?_);exact .refl
def zf6(p q:Pt)(a:S50 p.x/\S50 p.y)(b:S50 q.x/\S50 q.y):CX 459 [wk p,wk q] (wk (zw p q)):=by
 refine zc func459 ?_;(iterate 2 refine wa ?_);exact .refl
def zis{v:Pt}{w:Int}(e:kq w)(f:¬zbP v.x)(g:¬zbP v.y):
  (0<=v.x*v.x/\v.x*v.x<=4398046511104)/\(0<=v.y*v.y/\v.y*v.y<=4398046511104)/\
  (-34359738368<=v.x*w/\v.x*w<=34359738368)/\(-34359738368<= -v.y*w/\ -v.y*w<=34359738368)/\
  (0<=isq (65536*(v.x*v.x+v.y*v.y))/\isq (65536*(v.x*v.x+v.y*v.y))<4294967296):=by
 unfold zbP at f g;unfold kq at e;have h:=jB (A:=2097152) (B:=2097152) (a:=v.x) (b:=v.x) oM oM;have j:=jB (A:=2097152) (B:=2097152) (a:=v.y) (b:=v.y) oM oM;have k:=jB (A:=2097152) (B:=16384) (a:=v.x) (b:=w) oM oM;have m:=jB (A:=2097152) (B:=16384) (a:= -v.y) (b:=w) oM oM;have o:=jf v.x;have p:=jf v.y;have c:=zg2 (n:=65536*(v.x*v.x+v.y*v.y)) oM oM;have d:=zzW (n:=65536*(v.x*v.x+v.y*v.y)) oM oM;exact⟨oM,oM,oM,oM,c.1,d⟩
def zbf(v:Pt)(w:Int):(-4398046511104<=(z7 v w).x/\(z7 v w).x<=4398046511104)/\(-4398046511104<=(z7 v w).y/\(z7 v w).y<=4398046511104):=by
 unfold z7
 split
 .exact⟨⟨dC,dC⟩,⟨dC,dC⟩⟩
 rename_i h;rw[not_or,not_or,not_or]at h;have a:=zis (Xa.1 h.1) h.2.1 h.2.2.1;exact⟨u3 (M:=4398046511104) oM,u3 (M:=4398046511104) oM⟩
def zlm(v:Pt)(w:Int):CX 474 [wk v,i64 w] (wk (z7 v w)):=by
 refine zc func474 ?_
 have bad:(¬kq w∨zbP v.x∨zbP v.y∨v=zp)->LE (wk zp) (wk (z7 v w)):=λh=>by
  unfold z7;rw[Xe h];exact .refl
 refine wg (zad w)<|⟨λa=>bad (.inl a),λa=>?_⟩;refine wg (zE3 v.x)<|⟨λc=>bad (.inr (.inl c)),λc=>?_⟩;refine wg (zE3 v.y)<|⟨λd=>bad (.inr (.inr (.inl d))),λd=>?_⟩;refine⟨λb=>bad (.inr (.inr (.inr (qm.1 b)))),λb=>?_⟩;have a:=Xa.1 a;have e:=zis a c d;have b:¬v=zp:=λh=>b (qm.2 h)
 (iterate 5 refine wa ?_);refine wg (zzZ (65536*(v.x*v.x+v.y*v.y)) oM)<|wa<|wc ?_;unfold kq at a;unfold zbP at c d;(iterate 3 refine wa ?_);refine wg (uZ (-v.y*w*128) (isq (65536*(v.x*v.x+v.y*v.y))) ⟨oM,oM⟩ ⟨oM,oM⟩) ?_;rw[uL oM];(iterate 2 refine wa ?_);refine wg (uZ (v.x*w*128) (isq (65536*(v.x*v.x+v.y*v.y))) ⟨oM,oM⟩ ⟨oM,oM⟩) ?_;rw[uL oM];unfold z7
 rw[Xc (by unfold kq zbP;intro h;rcases h with h|h|h|h <;> first|exact b h|omega)];exact .refl
def zg8(v:Pt)(w:Int):CX 456 [wk v,i64 w] (wk (z7 v w)):=by
 refine zc func456 ?_
 have bad:(¬kq w∨zbP v.x∨zbP v.y∨v=zp)->LE (wk zp) (wk (z7 v w)):=λh=>by
  unfold z7;rw[Xe h];exact .refl
 have far:∀n:Int,¬(-2097152<=n/\n<=2097152)->zbP n:=λn h=>by unfold zbP;omega
 refine wg (zpk w)<|⟨λa=>bad (.inl a),λa=>?_⟩;refine wg (zaA v.x (-2097152) 2097152)<|⟨λc=>bad (.inr (.inl (far _ c))),λc=>?_⟩;refine wg (zaA v.y (-2097152) 2097152)<|⟨λd=>bad (.inr (.inr (.inl (far _ d)))),λd=>?_⟩;have a:=Xa.1 a;have e:¬zbP v.x:=by unfold zbP;omega
 have f:¬zbP v.y:=by unfold zbP;omega
 have k:=zis a e f;(iterate 5 refine wa ?_);refine wg (zvl (65536*(v.x*v.x+v.y*v.y)) oM)<|wa<|wc ?_;(iterate 3 refine wa ?_);refine wg (ug (-v.y*w*128) (isq (65536*(v.x*v.x+v.y*v.y))) ⟨oM,oM⟩ ⟨oM,oM⟩) ?_;rw[uL oM];(iterate 2 refine wa ?_);refine wg (ug (v.x*w*128) (isq (65536*(v.x*v.x+v.y*v.y))) ⟨oM,oM⟩ ⟨oM,oM⟩) ?_;rw[uL oM]
 by_cases b:v=zp
 .have g:z8 (-v.y*w*128) (isq (65536*(v.x*v.x+v.y*v.y)))=0:=by
   rw[b,show-zp.y*w*128=0 by show(-0:Int)*w*128=0;simp];exact zns
  have j:z8 (v.x*w*128) (isq (65536*(v.x*v.x+v.y*v.y)))=0:=by
   rw[b,show zp.x*w*128=0 by show(0:Int)*w*128=0;simp];exact zns
  rw[g,j];exact bad (.inr (.inr (.inr b)))
 unfold z7;rw[Xc (by intro h;rcases h with h|h|h|h <;> first|exact b h|exact h a|exact e h|exact f h)];exact .refl
structure Pl where
 pts:LU
 cl:Bool
def plE(q:Pl):LR:=[.sl ptE q.pts,pr (q.cl=true)]
def zk(r:LU):LR:=[.sl ptE r]
def qY:LU->LU
 |[]=>[]
 |p::r=>match r with
  |[]=>[p]
  |q::_=>if p=q then qY r else p::qY r
def qk(l:LU):LU:=if 1<l.length/\l.getLast?=l.head? then l.dropLast else l
def zu(p:Pl):Pl:=⟨if p.cl then qk (qY p.pts) else qY p.pts,p.cl⟩
def jH:LU->Prop
 |[]=>True
 |p::r=>(∀q,r.head?=some q->p≠q)/\jH r
def zln:∀l:LU,(qY l).head?=l.head?
 |[]=>rfl
 |[p]=>rfl
 |p::q::r=>by
  unfold qY;dsimp only
  split
  .rename_i h;rw[zln (q::r),h];rfl
  rfl
def uj:∀l:LU,jH (qY l)
 |[]=>trivial
 |[p]=>⟨λ_ h=>(by cases h),tV⟩
 |p::q::r=>by
  unfold qY;dsimp only
  split
  .exact uj (q::r)
  rename_i h;refine⟨λz a=>?_,uj (q::r)⟩;rw[zln]at a
  cases a
  exact h
def ze6:∀{l:LU} {p:Pt},p∈qY l->p∈l
 |[],_,h=>h
 |[q],_,h=>h
 |a::q::r,p,h=>by
  unfold qY at h;dsimp only at h
  split at h
  .exact .tail _ (ze6 h)
  cases h with
  |head=>exact .head _
  |tail _ h=>exact .tail _ (ze6 h)
def nth(l:LU)(i:Nat):Pt:=l.getD i zp
def kY(p:Pl)(pen:Pen):LQ:=
 ((List.range (p.pts.length-1)).flatMap λi=>kO (jX (nth p.pts i) (nth p.pts (i+1)) pen.w))++
 (if p.cl/\1<p.pts.length then kO (jX (nth p.pts (p.pts.length-1)) (nth p.pts 0) pen.w) else[])
def jh(p:Pl)(pen:Pen):LQ:=
 if p.pts.length<=1 then[] else
 (List.range p.pts.length).flatMap λi=>if¬p.cl=true/\(i=0∨i=p.pts.length-1) then[]
  else jc (nth p.pts ((i+p.pts.length-1)%p.pts.length)) (nth p.pts i) (nth p.pts ((i+1)%p.pts.length)) pen
def y8(a b:Pt)(pen:Pen):LU:=if pen.c=5 then zlg a b pen.w else if pen.c=3 then vX b pen.w else[]
def zbB(p:Pt)(pen:Pen):LU:=if pen.c=5 then zef p pen.w else if pen.c=3 then vX p pen.w else[]
def zek(p:Pl)(pen:Pen):LQ:=
 if p.pts.length=1 then kO (zbB (nth p.pts 0) pen)
 else if 1<p.pts.length/\¬p.cl=true then kO (y8 (nth p.pts 1) (nth p.pts 0) pen)++kO (y8 (nth p.pts (p.pts.length-2)) (nth p.pts (p.pts.length-1)) pen) else[]
def kv(p:Pl)(pen:Pen):LQ:=kY p pen++jh p pen++zek p pen
def qe(l:LQ):Nat:=(l.map List.length).sum
def kA(p:Pl)(pen:Pen):LQ×Int:=
 if¬kE pen then([],13) else if¬∀q∈p.pts,zm q then([],6) else if 4096<p.pts.length then([],5)
 else if¬∀r∈kv (zu p) pen,∀q∈r,zm q then([],6) else if 4096<qe (kv (zu p) pen) then([],5) else(kv (zu p) pen,0)
def qo:List Pl->Pen->LQ×Int
 |[],_=>([],0)
 |p::r,pen=>if (kA p pen).2≠0 then([],(kA p pen).2)
  else if (qo r pen).2≠0 then([],(qo r pen).2) else((kA p pen).1++(qo r pen).1,0)
def qw(l:List Pl)(pen:Pen):LQ×Int:=
 if¬kE pen then([],13) else if (qo l pen).2≠0 then([],(qo l pen).2) else if 4096<qe (qo l pen).1 then([],5) else((qo l pen).1,0)
def yo(a b c:Pt):Int:=(a.x-2*b.x+c.x)*(a.x-2*b.x+c.x)+(a.y-2*b.y+c.y)*(a.y-2*b.y+c.y)
def enough(need tol:Int)(n:Nat):Prop:=need<=16*n*n*n*n*tol*tol
instance (need tol:Int) (n:Nat):Decidable (enough need tol n):=inferInstanceAs (Decidable (_<=_))
def yF(need tol:Int):Nat->Nat->Int×Int
 |0,_=>(0,11)
 |k+1,n=>if enough need tol n then(n,0) else yF need tol k (n+1)
def kZ(need tol:Int)(l:LU):Int×Int:=if¬(1<=tol/\tol<=256) then(0,2) else if¬∀p∈l,zm p then(0,6) else yF need tol 64 1
def jY(a b c:Pt)(tol:Int):Int×Int:=kZ (yo a b c) tol [a,b,c]
def jZ(a b c d:Pt)(tol:Int):Int×Int:=kZ (9*max (yo a b c) (yo b c d)) tol [a,b,c,d]
def zrr(l:LU)(i n:Int):Prop:=(∀p∈l,zm p)/\1<=n/\n<=64/\0<=i/\i<=n
instance (l:LU) (i n:Int):Decidable (zrr l i n):=wi
def q1(i n a b c:Int):Int:=zee ((n-i)*(n-i)*a+2*i*(n-i)*b+i*i*c) (n*n)
def yY(a b c:Pt)(i n:Int):Pt:=if¬zrr [a,b,c] i n then zp else⟨q1 i n a.x b.x c.x,q1 i n a.y b.y c.y⟩
def c1(i n a b c d:Int):Int:=zee ((n-i)*(n-i)*(n-i)*a+3*i*(n-i)*(n-i)*b+3*i*i*(n-i)*c+i*i*i*d) (n*n*n)
def yZ(a b c d:Pt)(i n:Int):Pt:=if¬zrr [a,b,c,d] i n then zp else⟨c1 i n a.x b.x c.x d.x,c1 i n a.y b.y c.y d.y⟩
def zcx(f:Int->Pt)(n:Nat):LU:=(List.range n).map λ(i:Nat)=>f ((i:Int)+1)
def zdz(a b c:Pt)(tol:Int):LU×Int:=if (jY a b c tol).2≠0 then([],(jY a b c tol).2) else(zcx (λi=>yY a b c i (jY a b c tol).1) (jY a b c tol).1.toNat,0)
def zdA(a b c d:Pt)(tol:Int):LU×Int:=if (jZ a b c d tol).2≠0 then([],(jZ a b c d tol).2) else(zcx (λi=>yZ a b c d i (jZ a b c d tol).1) (jZ a b c d tol).1.toNat,0)
def kB(rs:LQ):Prop:=(qe rs:Int)<=4096/\∀r∈rs,∀p∈r,zm p
instance (rs:LQ):Decidable (kB rs):=wi
def ze7(r:LU):kB [r]↔zpi r:=by
 unfold kB zpi qe;simp
def zjp(xs:LU):Int:=match xs.findIdx? (λp=>decide (¬zm p)) with
 |some i=>i
 |none=> -1
def zrs{xs:LU}{i:Nat}{p:Pt}(h:∀(j:Nat) q,j<i->xs[j]?=some q->zm q)(hi:xs[i]?=some p)(d:¬zm p):zjp xs=i:=by
 have:xs.findIdx? (λp=>decide (¬zm p))=some i:=by
  rw[KN];obtain⟨c,a⟩:=Xd.1 hi;refine⟨c,by simp[a,d],λj b=>?_⟩;have:=h j xs[j] b (Xb _);simp[this]
 simp only[zjp,this]
variable{xs:LU}
def zf7(h:∀p∈xs,zm p):zjp xs= -1:=by
 have:xs.findIdx? (λp=>decide (¬zm p))=none:=by
  rw[Kz];intro p a;simp[h p a]
 simp only[zjp,this]
def zg9:0<=zjp xs↔¬∀p∈xs,zm p:=by
 constructor
 .intro h hall;rw[zf7 hall]at h;omega
 intro h;unfold zjp
 split
 .omega
 rename_i a;rw[Kz]at a;exact absurd (λp b=>by simpa using a p b) h
def zAb(p:Pt):CX 165 [wk p] (pr (¬zm p)):=by
 exact zc func165<|wg (qa p)<|zB Qj
def zDf(xs:LU):CX 239 [.sl ptE xs,.fn 165 []] (i64 (zjp xs)):=by
 refine zc func239 λk=>?_;refine⟨Int,λi=>⟨[(8,i64 i),(7,i64 xs.length),(0,.sl ptE xs),(1,.fn 165 [])],[],0,19,0⟩,λi=>0<=i/\i<=xs.length/\∀(j:Nat) q,(j:Int)<i->xs[j]?=some q->zm q,λi=>((xs.length:Int)-i).toNat,0,?_,?_,?_⟩
 .exact⟨oM,oM,λj q a=>by omega⟩
 .exact zC []
 rintro i ⟨n,o,b⟩
 refine⟨λg=>?_,λg=>?_⟩
 .refine wb λx f=>wg (zAb x)<|⟨λc=>?_,λc=>?_⟩
  .refine ze ?_;rw[zrs (i:=i.toNat) (λj q a=>b j q oM) f c];omega
  refine wa<|⟨i+1,⟨oM,oM,λj q a d=>?_⟩,zC [],oN⟩
  by_cases e:j=i.toNat
  .subst e;rw[f]at d;cases d;exact Xa.1 c
  exact b j q oM d
 refine ze (zf7 λp m=>?_).symm;obtain⟨j,a,h⟩:=Ks m;exact b j p oM (by rw[←h];exact Xb a)
def ztR(xs:LU):CX 164 [.sl ptE xs,.fn 165 []] (pr (¬∀p∈xs,zm p)):=by
 exact zc func164<|wg (zDf xs)<|zB zg9
def vi{rs:LQ}{i:Nat}{r:LU}(h:rs[i]?=some r):qe (rs.take (i+1))=qe (rs.take i)+r.length:=by
 unfold qe;rw[Xm,h];simp
def zas(rs:LQ)(i:Nat):qe (rs.take i)<=qe rs:=by
 unfold qe
 conv=>rhs;rw[←Kr i rs]
 rw[XA,QT];omega
variable{r:LU}
def zda{rs:LQ}(h:rs[i]?=some r)(b:∀q∈rs.take i,∀p∈q,zm p)(c:∀p∈r,zm p):∀q∈rs.take (i+1),∀p∈q,zm p:=by
 rw[Xm,h];intro q a
 rcases Xt.1 a with a|a
 .exact b q a
 rw[QC,Xu]at a;exact a ▸ c
def zha(rs:LQ)(s:∀r∈rs,(r.length:Int)<=9223372036854771711):CX 112 [.sl zk rs] (pr (kB rs)):=by
 refine zc func112 λj=>?_;refine⟨Nat,λi=>⟨[(3,i64 (qe (rs.take i):Int)),(8,i64 i),(7,i64 rs.length),(6,.sl zk rs)],[],0,23,0⟩,λi=>i<=rs.length/\(qe (rs.take i):Int)<=4096/\∀q∈rs.take i,∀p∈q,zm p,λi=>rs.length-i,0,?_,?_,?_⟩
 .exact⟨Xh _,by show((0:Nat):Int)<=4096;decide,λq n=>by cases n⟩
 .exact zC []
 rintro i ⟨t,d,c⟩
 refine⟨λg=>?_,λg=>?_⟩
 .refine wb λr(a:rs[i]?=some r)=>?_;have o:=s r (Xf a);have u:=vi a;have h:=zas rs (i+1);intro m;refine wa<|Br.mk (λf=>zd (λk=>by have:=k.1;omega)) (λf=>?_);refine wg (ztR r)<|⟨λb=>zd (λk=>b (k.2 r (Xf a))),λb=>?_⟩;refine wa ?_;have e:(qe (rs.take i):Int)+(r.length:Int)=((qe (rs.take (i+1)):Nat):Int):=oM;refine⟨i+1,⟨oM,oM,zda a c (Xa.1 b)⟩,?_,oN⟩;dsimp only;rw[←e]
  exact zC []
 rw[Xi oM]at d c;exact zH ⟨d,c⟩
def zhb(rs:LQ):CX 151 [.sl zk rs] (pr (kB rs)):=by
 refine zc func151<|⟨Nat,λi=>⟨[(3,i64 (qe (rs.take i):Int)),(4,i64 i),(0,.sl zk rs)],[],0,45,0⟩,λi=>i<=rs.length/\(qe (rs.take i):Int)<=4096/\∀q∈rs.take i,∀p∈q,zm p,λi=>rs.length-i,0,?_,?_,?_⟩
 .exact⟨Xh _,by show((0:Nat):Int)<=4096;decide,λq b=>by cases b⟩
 .exact zC []
 rintro i ⟨z,m,h⟩
 intro u;refine⟨λg=>?_,λg=>?_⟩
 .refine wb λr(d:rs[i]?=some r)=>?_;have A:=vi d;have t:=zas rs (i+1);intro v;refine wa<|Br.mk (λo=>zd (λk=>by have:=k.1;omega)) (λo=>?_);refine wb λc a=>?_;have e:c=r:=Xl ((show rs[i]?=some c from a).symm.trans d);rw[e];intro w;refine wa ?_;have e:(qe (rs.take i):Int)+(r.length:Int)=((qe (rs.take (i+1)):Nat):Int):=oM;rw[e]
  refine⟨Nat,λk=>⟨[(5,i64 k),(3,i64 (qe (rs.take (i+1)):Int)),(4,i64 i),(0,.sl zk rs)],[],0,45,0⟩,λk=>k<=r.length/\∀p∈r.take k,zm p,λk=>r.length-k,0,?_,?_,?_⟩
  .exact⟨Xh _,λq b=>by cases b⟩
  .exact zC []
  rintro k ⟨B,j⟩
  refine wb λc a=>?_;have e:c=r:=Xl ((show rs[i]?=some c from a).symm.trans d);rw[e];intro y;refine⟨λs=>?_,λs=>?_⟩
  .refine wb λc a=>?_;have e:c=r:=Xl ((show rs[i]?=some c from a).symm.trans d);rw[e];refine wb λx(n:r[k]?=some x)=>?_;refine wg (ki x)<|⟨λf=>zd (λkk=>f (kk.2 r (Xf d) x (Xf n))),λf=>?_⟩;refine wa<|⟨k+1,⟨oM,?_⟩,zC [],oN⟩;rw[Xm,n];intro q b
   rcases Xt.1 b with b|b
   .exact j q b
   rw[QC,Xu]at b;exact b ▸ Xa.1 f
  rw[Xi oM]at j;exact wa<|⟨i+1,⟨oM,oM,zda d h j⟩,zC [],oN⟩
 rw[Xi oM]at m h;exact zH ⟨m,h⟩
def zGe(n:Int)(p q:Pt)(b: -4611686018427387904<=n/\n<=4611686018427387904):
  CG0 491 [wk p,wk q,.loc 0 0] [(0,.box 3 [i64 n])] (.tup []) [(0,.box 3 [i64 (n+zaS p q)])]:=by
 have a:=zcv (ju p) (ju q);exact ut tok mix func491 rfl rfl rfl rfl rfl<|wc<|wg (zDc p q)<|Ar.fit (by unfold zaS;omega)<|⟨rfl,.refl⟩
def zjV{n:Nat}(h:i<n):((i:Int)+1)%(n:Int)=(((i+1)%n:Nat):Int):=by rw[Q1,QR];rfl
def znx{x y:Pt}(b:r[i]?=some x)(a:r[(((i:Int)+1)%(r.length:Int)).toNat]?=some y)(h:i<r.length):vh r (i+1)=vh r i+zaS x y:=by
 rw[zjV h,XT]at a;rw[zf4,Xr,Xr,b,a];rfl
def zGf(r:LU)(m:r.length<=4096):
  CG0 115 [.sl ptE r,.fn 491 [.loc 0 0]] [(0,.box 3 [i64 0])] (.tup []) [(0,.box 3 [i64 (vh r r.length)])]:=by
 refine ut tok mix func115 rfl rfl rfl rfl rfl λd=>?_;refine⟨Nat,λi=>⟨[(8,i64 i),(7,i64 r.length),(6,.sl ptE r),(0,.sl ptE r),(1,.fn 491 [.loc 0 0])],[(0,.box 3 [i64 (vh r i)])],1,25,1⟩,λi=>i<=r.length,λi=>r.length-i,0,?_,?_,?_⟩
 .exact Xh _
 .exact zf [0]
 rintro i j
 refine⟨λg:(i:Int)<r.length=>?_,λg=>?_⟩
 .refine wb λx a=>wd<|wa λf=>Dv.pos ⟨oM,oM⟩ ?_;have q1:=Kh ((i:Int)+1) (b:=(r.length:Int)) oM;have h:=Kd ((i:Int)+1) (b:=(r.length:Int)) oM;refine Ob.mk ⟨q1,h⟩ λy c=>?_;have a:r[i]?=some x:=a;have c:r[(((i:Int)+1)%(r.length:Int)).toNat]?=some y:=c;have k:=zjk r i;refine zb.hand 0 _ _ _ rfl (zGe (vh r i) x y oM) rfl rfl rfl rfl<|wh<|wa ?_
  have e:vh r (i+1)=vh r i+zaS x y:=znx a c oM;refine⟨i+1,oM,?_,oN⟩;dsimp only;rw[e];exact zf [0]
 have e:i=r.length:=by have g:¬(i:Int)<r.length:=g;omega
 subst e;exact⟨rfl,.refl⟩
def zGg(r:LU)(c:(r.length:Int)<=9223372036854771711):CX 475 [.sl ptE r] (i64 (zcw r)):=by
 refine zc func475<|⟨LU,zk,[r],rfl,wb0 ?_⟩;refine zb.see 0 _ (zha [r] (λq b=>by rw[Xu]at b;exact b ▸ c)) rfl rfl rfl<|Br.mk (λa=>?_) (λa=>?_)
 .refine ze ?_;unfold zcw;rw[Xc (λh=>a ((ze7 r).2 h))]
 have a:=(ze7 r).1 (Xa.1 a);refine zb.give [1] 0 [.sl ptE r,.fn 491 [.loc 0 0]] [(0,.box 3 [i64 0])] [(0,.box 3 [i64 (vh r r.length)])] (.tup []) (zGf r (by have:=a.1;omega)) LEs.refl rfl rfl rfl ⟨⟨_,rfl,rfl,rfl⟩,tV⟩ rfl ⟨⟨rfl,rfl⟩,tV⟩<|ze ?_;unfold zcw;rw[Xe a]
def zAc(r:LU)(i:Nat)(y:Pt)(h:i<r.length/\r.length<=4096)(c:r[(((i:Int)+1)%(r.length:Int)).toNat]?=some y):
  CX 180 [.sl ptE r,i64 i] (wk y):=by
 refine zc func180<|wa λa=>Dv.pos ⟨oM,oM⟩ ?_;have q1:=Kh ((i:Int)+1) (b:=(r.length:Int)) oM;have f:=Kd ((i:Int)+1) (b:=(r.length:Int)) oM;refine Ob.mk ⟨q1,f⟩ λz d=>?_;have e:z=y:=Xl ((show r[(((i:Int)+1)%(r.length:Int)).toNat]?=some z from d).symm.trans c);rw[e];exact .refl
def zGh(r:LU):CX 484 [.sl ptE r] (i64 (zcw r)):=by
 refine zc func484<|⟨LU,zk,[r],rfl,wb0 ?_⟩;refine zb.see 0 _ (zhb [r]) rfl rfl rfl<|Br.mk (λa=>?_) (λa=>?_)
 .refine ze ?_;unfold zcw;rw[Xc (λh=>a ((ze7 r).2 h))]
 have a:=(ze7 r).1 (Xa.1 a);have j:r.length<=4096:=by have:=a.1;omega
 refine⟨Nat,λi=>⟨[(4,i64 i),(3,i64 (vh r i)),(0,.sl ptE r)],[],1,26,0⟩,λi=>i<=r.length,λi=>r.length-i,0,?_,?_,?_⟩
 .exact Xh _
 .exact zC []
 rintro i m
 intro f;refine⟨λg:(i:Int)<r.length=>?_,λg=>?_⟩
 .refine wc<|wb λx(k:r[i]?=some x)=>?_;have d:(i+1)%r.length<r.length:=Kn _ oM;obtain⟨y,b⟩:∃y,r[(i+1)%r.length]?=some y:=⟨_,Xb d⟩;have c:r[(((i:Int)+1)%(r.length:Int)).toNat]?=some y:=by rw[zjV oM,XT];exact b
  refine wg (zAc r i y ⟨oM,j⟩ c)<|wg (zDd x y) ?_;have n:=zjk r i;have o:=zcv (ju x) (ju y);refine Ar.fit (by unfold zaS;omega)<|wa ?_;have e:vh r (i+1)=vh r i+zaS x y:=znx k c oM;refine⟨i+1,oM,?_,oN⟩;dsimp only;rw[e];exact zC []
 have e:i=r.length:=by have g:¬(i:Int)<r.length:=g;omega
 subst e;refine ze ?_;unfold zcw;rw[Xe a]
def zrt(r:LU)(e:r.length<=4096):CX 224 [.sl ptE r] (.sl ptE r):=by
 refine zc func224<|⟨Pt,ptE,[],rfl,wb2 ?_⟩;refine⟨Nat,λi=>⟨[(4,i64 i),(3,.own 0),(0,.sl ptE r)],[(0,.arr 28 ptE 2 (r.take i))],1,20,0⟩,λi=>i<=r.length,λi=>r.length-i,0,?_,?_,?_⟩
 .exact Xh _
 .exact zf [0]
 rintro i d
 intro b;refine⟨λg:(i:Int)<r.length=>?_,λg=>?_⟩
 .refine wb λx(c:r[i]?=some x)=>?_;refine⟨Pt,ptE,[x],rfl,wb0 ?_⟩;have a:(r.take i).length=i:=by rw[Xo];omega
  refine⟨[x],rfl,Ob.mk ⟨(by show _*(16:Int)<=_;simp only[a,Xn,Xs];omega),(by simp only[a,Xn,Xs];omega),dC,λ_ _=>rfl⟩ ?_⟩;exact wa<|⟨i+1,oM,zt [2] ⟨aR (by rw[Xm,c];rfl),tV⟩,oN⟩
 exact z6 (by rw[Xi (by have g:¬(i:Int)<r.length:=g;omega)])
def zny:zcw []=0:=by decide +kernel
def zit{r:LU}(h:zcw r≠0):r.length<=4096:=by
 unfold zcw at h
 split at h
 .rename_i k;have:=k.1;omega
 exact absurd rfl h
def zbC(r:LU):CX 458 [.sl ptE r] (.sl ptE (kH r)):=by
 refine zc func458<|wg (zGh r)<|⟨λc=>?_,λc=>?_⟩
 .exact wg (zrt r (zit oM))<|z6 (show r=kH r by unfold kH;rw[Xc oM,Xc oM])
 refine⟨Pt,ptE,[],rfl,wb2 ?_⟩;refine⟨λa=>?_,λa=>?_⟩
 .have h:=zit (r:=r) oM;have e:kH r=zvj r:=by unfold kH;rw[Xc oM,Xe a]
  cases r with
  |nil=>rw[zny]at a;omega
  |cons p q=>
   have n:q.length+1<=4096:=h;have hL:((p::q).length:Int)=q.length+1:=by simp only[Xn];omega
   refine wb5 λx b=>?_;have b:some p=some x:=b
   cases b
   refine⟨Pt,ptE,[p],rfl,wb0 ?_⟩;refine⟨[p],rfl,wb4 ?_⟩;intro f;refine wa<|⟨Nat,λi=>⟨[(5,i64 i),(4,.own 0),(0,.sl ptE (p::q))],[(0,.arr 28 ptE 2 (p::(q.drop i).reverse))],1,36,0⟩,λi=>i<=q.length,λi=>i,q.length,?_,?_,?_⟩
   .exact Xj _
   .exact zP [2] ⟨iR oM,rfl,rfl,tV⟩ ⟨aR (by rw[List.drop_length];rfl),tV⟩
   rintro i m
   refine⟨λg:(0:Int)<i=>?_,λg:¬(0:Int)<i=>?_⟩
   .obtain⟨j,rfl⟩:∃j,i=j+1:=⟨i-1,oM⟩;refine wb5 λy(k:q[j]?=some y)=>?_;refine⟨Pt,ptE,[y],rfl,wb0 ?_⟩;refine⟨[y],rfl,Ob.mk ⟨(by show _*(16:Int)<=_;simp only[Xn,Xs,K8,KB];omega),(by simp only[Xn,Xs,K8,KB];omega),dC,λ_ _=>rfl⟩ ?_⟩;refine wa ?_
    refine⟨j,oM,zP [2] ⟨iR (show((j+1:Nat):Int)-1=(j:Int) by omega),rfl,rfl,tV⟩ ⟨aR ?_,tV⟩,oN⟩;rw[zg3 k,List.reverse_cons];rfl
   have d:i=0:=oM;subst d;refine z6 ?_;rw[e];rfl
 refine z6 ?_;unfold kH;rw[Xe oM]
abbrev ws(x:Pen):SV:=.agg (jg x)
abbrev wv(x:Pl):SV:=.agg (plE x)
abbrev LZ:=List Pl
end Go.Gs
