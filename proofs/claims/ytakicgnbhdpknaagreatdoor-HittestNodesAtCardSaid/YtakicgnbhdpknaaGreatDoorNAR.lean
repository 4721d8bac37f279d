/- The pens, both texts. -/
import Derived.Test.YtakicgnbhdpknaaGreatDoorNAQ
set_option maxRecDepth 100000
set_option maxHeartbeats 8000000
set_option linter.all false
namespace Go.Gs
open Proofs.Tryz
open Go.Proofs
def jb(p:Pen):LR:=[i64 p.w,i64 p.j,i64 p.c,i64 p.m,.sl zN p.d,i64 p.ph]
def zdI(l:LV)(i:Nat):Prop:=l=[]∨∃n∈l.take i,0<n
variable{l:LV}{i:Nat}{x:Int}
def zgs(h:l[i]?=some x):l.take (i+1)=l.take i++[x]:=by
 rw[Xl,h];rfl
def zcI(h:l[i]?=some x):zdI l (i+1)↔zdI l i∨0<x:=by
 unfold zdI;rw[zgs h];constructor
 ·rintro(h|⟨n,hn,h0⟩)
  ·exact .inl (.inl h)
  rcases Xs.1 hn with hn|hn
  ·exact .inl (.inr ⟨n,hn,h0⟩)
  rw[Xu]at hn;exact .inr (hn ▸ h0)
 rintro((h|⟨n,hn,h0⟩)|h)
 ·exact .inl h
 ·exact .inr ⟨n,Qg _ hn,h0⟩
 exact .inr ⟨x,Qu _ (Xu.2 rfl),h⟩
def ztG{l:LV}{i:Nat}(hi:l.length<=i)(ha:∀n∈l.take i,0<=n/\n<=1048576):uy l↔zdI l i/\l.length%2=0/\(l.length:Int)<=16:=by
 rw[Xi hi]at ha;unfold uy zdI;rw[Xi hi];exact⟨λh=>h.2,λh=>⟨ha,h⟩⟩
def zgt(h:l[i]?=some x)(ha:∀n∈l.take i,0<=n/\n<=1048576)(hx:0<=x/\x<=1048576):∀n∈l.take (i+1),0<=n/\n<=1048576:=by
 rw[zgs h];intro n hn
 rcases Xs.1 hn with hn|hn
 ·exact ha n hn
 rw[Xu]at hn;exact hn ▸ hx
def zj9(h:l[i]?=some x)(hx:¬(0<=x/\x<=1048576)):¬uy l:=λk=>hx (k.1 x (Xf h))
def vo(l:LV):CX 312 [.sl zN l] (pr (uy l)):=by
 refine zc func312 λhl1=>?_;intro hl2;refine⟨Nat×Bool,λz=>⟨[(3,bl z.2),(11,i64 (z.1:Int)),(10,i64 l.length),(9,.sl zN l),(0,.sl zN l)],[],0,39,0⟩,λz=>z.1<=l.length/\(z.2=true↔zdI l z.1)/\∀n∈l.take z.1,0<=n/\n<=1048576,λz=>l.length-z.1,(0,decide (l=[])),?_,?_,?_⟩
 ·refine⟨Xh _,?_,λn hn=>by cases hn⟩;show decide (l=[])=true↔_;unfold zdI;rw[decide_eq_true_iff];exact⟨.inl,λh=>h.elim id (λ⟨n,hn,_⟩=>by cases hn)⟩
 ·refine Sub.trans (jQ (t:=3) (s':=bl (decide (l=[]))) rfl (ztq ?_)) (qF [] rfl rfl rfl ⟨rfl,rfl,rfl,rfl,rfl,tV⟩ trivial);rw[decide_eq_true_iff,←XM];omega
 rintro⟨i,b⟩ ⟨h1,h2,h3⟩
 dsimp only at h1 h2 h3;refine⟨λg:(i:Int)<l.length=>?_,λg:¬(i:Int)<l.length=>?_⟩
 ·refine wb λx hx=>?_;refine⟨λa1=>zd (zj9 hx oM),λa1=>?_⟩;refine⟨λa2=>zd (zj9 hx oM),λa2=>?_⟩;have hx:l[i]?=some x:=hx
  cases b with
  |true=>
   refine wa<|⟨(i+1,true),⟨oN,?_,zgt hx h3 oM⟩,zB [],oN⟩;exact⟨λ_=>(zcI hx).2 (.inl (h2.1 rfl)),λ_=>rfl⟩
  |false=>
   refine wa<|⟨(i+1,decide (0<x)),⟨oN,?_,zgt hx h3 oM⟩,Sub.trans (jQ (t:=3) (s':=bl (decide (0<x))) rfl (ztq ?_)) (qF [] rfl rfl rfl ⟨rfl,rfl,rfl,rfl,rfl,tV⟩ trivial),oN⟩
   ·show decide (0<x)=true↔zdI l (i+1);rw[decide_eq_true_iff,zcI (show l[i]?=some x from hx)];exact⟨.inr,λh=>h.elim (λk=>by have:=h2.2 k;cases this) id⟩
   rw[decide_eq_true_iff]
 have hd:=ztG (l:=l) (i:=i) oM h3
 cases b with
 |false=>
  exact zd (λk=>by have:=h2.2 (hd.1 k).1;cases this)
 |true=>
  intro hl3;refine Dv.pos ⟨oM,oM⟩<|⟨λa1=>?_,λa1=>zd (λk=>a1 (by have:=(hd.1 k).2.1;omega))⟩;intro hl4;exact zE ⟨λk=>hd.2 ⟨h2.1 rfl,oM,k⟩,λk=>(hd.1 k).2.2⟩
def zxy(l:LV):CX 227 [.sl zN l] (pr (uy l)):=by
 refine zc func227 λhl1=>?_;refine⟨Nat×Bool,λz=>⟨[(3,bl z.2),(4,i64 (z.1:Int)),(0,.sl zN l)],[],0,40,0⟩,λz=>z.1<=l.length/\(z.2=true↔zdI l z.1)/\∀n∈l.take z.1,0<=n/\n<=1048576,λz=>l.length-z.1,(0,decide (l=[])),?_,?_,?_⟩
 ·refine⟨Xh _,?_,λn hn=>by cases hn⟩;show decide (l=[])=true↔_;unfold zdI;rw[decide_eq_true_iff];exact⟨.inl,λh=>h.elim id (λ⟨n,hn,_⟩=>by cases hn)⟩
 ·refine Sub.trans (jQ (t:=3) (s':=bl (decide (l=[]))) rfl (ztq ?_)) (qF [] rfl rfl rfl ⟨rfl,rfl,rfl,tV⟩ trivial);rw[decide_eq_true_iff,←XM];omega
 rintro⟨i,b⟩ ⟨h1,h2,h3⟩
 dsimp only at h1 h2 h3;intro hl2;refine⟨λg:(i:Int)<l.length=>?_,λg:¬(i:Int)<l.length=>?_⟩
 ·refine wb λx hx=>wg (zaf x 0 1048576)<|⟨λa1=>zd (zj9 hx a1),λa1=>?_⟩;have a1:0<=x/\x<=1048576:=Xa.1 a1;have hx:l[i]?=some x:=hx
  cases b with
  |true=>
   refine wa<|⟨(i+1,true),⟨oN,?_,zgt hx h3 a1⟩,zB [],oN⟩;exact⟨λ_=>(zcI hx).2 (.inl (h2.1 rfl)),λ_=>rfl⟩
  |false=>
   refine wb λy(hy:l[i]?=some y)=>?_;have e:x=y:=Xm ((show l[i]?=some x from hx).symm.trans hy);subst e;refine wa<|⟨(i+1,decide (0<x)),⟨oN,?_,zgt hx h3 a1⟩,Sub.trans (jQ (t:=3) (s':=bl (decide (0<x))) rfl (ztq ?_)) (qF [] rfl rfl rfl ⟨rfl,rfl,rfl,tV⟩ trivial),oN⟩
   ·show decide (0<x)=true↔zdI l (i+1);rw[decide_eq_true_iff,zcI (show l[i]?=some x from hx)];exact⟨.inr,λh=>h.elim (λk=>by have:=h2.2 k;cases this) id⟩
   rw[decide_eq_true_iff]
 have hd:=ztG (l:=l) (i:=i) oM h3
 cases b with
 |false=>
  exact zd (λk=>by have:=h2.2 (hd.1 k).1;cases this)
 |true=>
  intro hl3;refine⟨λa1=>?_,λa1=>zd (λk=>a1 (hd.1 k).2.2)⟩;intro hl4;exact Dv.pos ⟨oM,oM⟩<|zE ⟨λk=>hd.2 ⟨h2.1 rfl,oM,a1⟩,λk=>by have:=(hd.1 k).2.1;omega⟩
def zio(p:Pen):kC p↔((1<=p.w/\p.w<=16384)/\(p.j=1∨p.j=2∨p.j=3)/\(p.c=3∨p.c=4∨p.c=5)/\(256<=p.m/\p.m<=65536)/\(0<=p.ph/\p.ph<=1048576))/\uy p.d:=by
 unfold kC ki;exact⟨λh=>⟨⟨h.1,h.2.1,h.2.2.1,h.2.2.2.1,h.2.2.2.2.2⟩,h.2.2.2.2.1⟩,λh=>⟨h.1.1,h.1.2.1,h.1.2.2.1,h.1.2.2.2.1,h.2,h.1.2.2.2.2⟩⟩
def zcJ(p:Pen):CX 156 [.agg (jb p)] (pr (kC p)):=by
 have hp:=zio p;refine zc func156<|wg (zn4 p.w)<|⟨λa1=>zd (λk=>a1 (hp.1 k).1.1),λa1=>?_⟩;refine wg (zaf p.j 1 3)<|⟨λa2=>zd (λk=>by have:=(hp.1 k).1;omega),λa2=>?_⟩;refine wg (zaf p.c 3 5)<|⟨λa3=>zd (λk=>by have:=(hp.1 k).1;omega),λa3=>?_⟩;refine wg (zaf p.m 256 65536)<|⟨λa4=>?_,λa4=>zd (λk=>by have:=(hp.1 k).1;omega)⟩;refine wg (zxy p.d)<|⟨λa5=>?_,λa5=>zd (λk=>a5 (hp.1 k).2)⟩
 exact wg (zaf p.ph 0 1048576)<|zE ⟨λk=>hp.2 ⟨by unfold ki at a1;omega,a5⟩,λk=>by have:=(hp.1 k).1;omega⟩
def zep(p:Pen):CX 249 [.agg (jb p)] (pr (kC p)):=by
 have hp:=zio p;refine zc func249<|Br.mk (λj1=>?_) (λj1=>?_)
 ·
  refine⟨λc1=>?_,λc1=>?_⟩
  ·
   refine wg (vN p.w)<|⟨λw1=>?_,λw1=>zd (λk=>w1 (hp.1 k).1.1)⟩;refine⟨λm1=>?_,λm1=>zd (λk=>by have:=(hp.1 k).1;omega)⟩;refine⟨λm2=>?_,λm2=>zd (λk=>by have:=(hp.1 k).1;omega)⟩;refine wg (vo p.d)<|⟨λd1=>?_,λd1=>zd (λk=>d1 (hp.1 k).2)⟩;refine⟨λp1=>?_,λp1=>zd (λk=>by have:=(hp.1 k).1;omega)⟩;exact zE ⟨λk=>hp.2 ⟨by unfold ki at w1;omega,d1⟩,λk=>by have:=(hp.1 k).1;omega⟩
  refine⟨λc2=>?_,λc2=>?_⟩
  ·
   refine wg (vN p.w)<|⟨λw1=>?_,λw1=>zd (λk=>w1 (hp.1 k).1.1)⟩;refine⟨λm1=>?_,λm1=>zd (λk=>by have:=(hp.1 k).1;omega)⟩;refine⟨λm2=>?_,λm2=>zd (λk=>by have:=(hp.1 k).1;omega)⟩;refine wg (vo p.d)<|⟨λd1=>?_,λd1=>zd (λk=>d1 (hp.1 k).2)⟩;refine⟨λp1=>?_,λp1=>zd (λk=>by have:=(hp.1 k).1;omega)⟩;exact zE ⟨λk=>hp.2 ⟨by unfold ki at w1;omega,d1⟩,λk=>by have:=(hp.1 k).1;omega⟩
  refine wg (vN p.w)<|⟨λw1=>?_,λw1=>zd (λk=>w1 (hp.1 k).1.1)⟩;refine⟨λc3=>?_,λc3=>zd (λk=>by have:=(hp.1 k).1;omega)⟩;refine⟨λm1=>?_,λm1=>zd (λk=>by have:=(hp.1 k).1;omega)⟩;refine⟨λm2=>?_,λm2=>zd (λk=>by have:=(hp.1 k).1;omega)⟩;refine wg (vo p.d)<|⟨λd1=>?_,λd1=>zd (λk=>d1 (hp.1 k).2)⟩;refine⟨λp1=>?_,λp1=>zd (λk=>by have:=(hp.1 k).1;omega)⟩
  exact zE ⟨λk=>hp.2 ⟨by unfold ki at w1;omega,d1⟩,λk=>by have:=(hp.1 k).1;omega⟩
 refine⟨λj2=>?_,λj2=>?_⟩
 ·
  refine⟨λc1=>?_,λc1=>?_⟩
  ·
   refine wg (vN p.w)<|⟨λw1=>?_,λw1=>zd (λk=>w1 (hp.1 k).1.1)⟩;refine⟨λm1=>?_,λm1=>zd (λk=>by have:=(hp.1 k).1;omega)⟩;refine⟨λm2=>?_,λm2=>zd (λk=>by have:=(hp.1 k).1;omega)⟩;refine wg (vo p.d)<|⟨λd1=>?_,λd1=>zd (λk=>d1 (hp.1 k).2)⟩;refine⟨λp1=>?_,λp1=>zd (λk=>by have:=(hp.1 k).1;omega)⟩;exact zE ⟨λk=>hp.2 ⟨by unfold ki at w1;omega,d1⟩,λk=>by have:=(hp.1 k).1;omega⟩
  refine⟨λc2=>?_,λc2=>?_⟩
  ·
   refine wg (vN p.w)<|⟨λw1=>?_,λw1=>zd (λk=>w1 (hp.1 k).1.1)⟩;refine⟨λm1=>?_,λm1=>zd (λk=>by have:=(hp.1 k).1;omega)⟩;refine⟨λm2=>?_,λm2=>zd (λk=>by have:=(hp.1 k).1;omega)⟩;refine wg (vo p.d)<|⟨λd1=>?_,λd1=>zd (λk=>d1 (hp.1 k).2)⟩;refine⟨λp1=>?_,λp1=>zd (λk=>by have:=(hp.1 k).1;omega)⟩;exact zE ⟨λk=>hp.2 ⟨by unfold ki at w1;omega,d1⟩,λk=>by have:=(hp.1 k).1;omega⟩
  refine wg (vN p.w)<|⟨λw1=>?_,λw1=>zd (λk=>w1 (hp.1 k).1.1)⟩;refine⟨λc3=>?_,λc3=>zd (λk=>by have:=(hp.1 k).1;omega)⟩;refine⟨λm1=>?_,λm1=>zd (λk=>by have:=(hp.1 k).1;omega)⟩;refine⟨λm2=>?_,λm2=>zd (λk=>by have:=(hp.1 k).1;omega)⟩;refine wg (vo p.d)<|⟨λd1=>?_,λd1=>zd (λk=>d1 (hp.1 k).2)⟩;refine⟨λp1=>?_,λp1=>zd (λk=>by have:=(hp.1 k).1;omega)⟩
  exact zE ⟨λk=>hp.2 ⟨by unfold ki at w1;omega,d1⟩,λk=>by have:=(hp.1 k).1;omega⟩
 refine⟨λc1=>?_,λc1=>?_⟩
 ·
  refine wg (vN p.w)<|⟨λw1=>?_,λw1=>zd (λk=>w1 (hp.1 k).1.1)⟩;refine⟨λj3=>?_,λj3=>zd (λk=>by have:=(hp.1 k).1;omega)⟩;refine⟨λm1=>?_,λm1=>zd (λk=>by have:=(hp.1 k).1;omega)⟩;refine⟨λm2=>?_,λm2=>zd (λk=>by have:=(hp.1 k).1;omega)⟩;refine wg (vo p.d)<|⟨λd1=>?_,λd1=>zd (λk=>d1 (hp.1 k).2)⟩;refine⟨λp1=>?_,λp1=>zd (λk=>by have:=(hp.1 k).1;omega)⟩
  exact zE ⟨λk=>hp.2 ⟨by unfold ki at w1;omega,d1⟩,λk=>by have:=(hp.1 k).1;omega⟩
 refine⟨λc2=>?_,λc2=>?_⟩
 ·
  refine wg (vN p.w)<|⟨λw1=>?_,λw1=>zd (λk=>w1 (hp.1 k).1.1)⟩;refine⟨λj3=>?_,λj3=>zd (λk=>by have:=(hp.1 k).1;omega)⟩;refine⟨λm1=>?_,λm1=>zd (λk=>by have:=(hp.1 k).1;omega)⟩;refine⟨λm2=>?_,λm2=>zd (λk=>by have:=(hp.1 k).1;omega)⟩;refine wg (vo p.d)<|⟨λd1=>?_,λd1=>zd (λk=>d1 (hp.1 k).2)⟩;refine⟨λp1=>?_,λp1=>zd (λk=>by have:=(hp.1 k).1;omega)⟩
  exact zE ⟨λk=>hp.2 ⟨by unfold ki at w1;omega,d1⟩,λk=>by have:=(hp.1 k).1;omega⟩
 refine wg (vN p.w)<|⟨λw1=>?_,λw1=>zd (λk=>w1 (hp.1 k).1.1)⟩;refine⟨λj3=>?_,λj3=>zd (λk=>by have:=(hp.1 k).1;omega)⟩;refine⟨λc3=>?_,λc3=>zd (λk=>by have:=(hp.1 k).1;omega)⟩;refine⟨λm1=>?_,λm1=>zd (λk=>by have:=(hp.1 k).1;omega)⟩;refine⟨λm2=>?_,λm2=>zd (λk=>by have:=(hp.1 k).1;omega)⟩;refine wg (vo p.d)<|⟨λd1=>?_,λd1=>zd (λk=>d1 (hp.1 k).2)⟩
 refine⟨λp1=>?_,λp1=>zd (λk=>by have:=(hp.1 k).1;omega)⟩;exact zE ⟨λk=>hp.2 ⟨by unfold ki at w1;omega,d1⟩,λk=>by have:=(hp.1 k).1;omega⟩
abbrev S50(n:Int):Prop:= -1125899906842624<=n/\n<=1125899906842624
def zka(p q:Pt)(hp:S50 p.x/\S50 p.y)(hq:S50 q.x/\S50 q.y):CX 438 [wk p,wk q] (wk (zn p q)):=by
 refine zc func438 ?_;(iterate 2 refine wa ?_);exact .refl
def zfx(p q:Pt)(hp:S50 p.x/\S50 p.y)(hq:S50 q.x/\S50 q.y):CX 439 [wk p,wk q] (wk (zw p q)):=by
 refine zc func439 ?_;(iterate 2 refine wa ?_);exact .refl
def zhy(p q:Pt)(hp:S50 p.x/\S50 p.y)(hq:S50 q.x/\S50 q.y):CX 457 [wk p,wk q] (wk (zn p q)):=by
 refine zc func457 ?_;(iterate 2 refine wa ?_);exact .refl
def zfy(p q:Pt)(hp:S50 p.x/\S50 p.y)(hq:S50 q.x/\S50 q.y):CX 459 [wk p,wk q] (wk (zw p q)):=by
 refine zc func459 ?_;(iterate 2 refine wa ?_);exact .refl
def zhz{v:Pt}{w:Int}(hw:ki w)(hx:¬zbq v.x)(hy:¬zbq v.y):
  (0<=v.x*v.x/\v.x*v.x<=4398046511104)/\(0<=v.y*v.y/\v.y*v.y<=4398046511104)/\
  (-34359738368<=v.x*w/\v.x*w<=34359738368)/\(-34359738368<= -v.y*w/\ -v.y*w<=34359738368)/\
  (0<=isq (65536*(v.x*v.x+v.y*v.y))/\isq (65536*(v.x*v.x+v.y*v.y))<4294967296):=by
 unfold zbq at hx hy;unfold ki at hw;have h1:=ju (A:=2097152) (B:=2097152) (a:=v.x) (b:=v.x) oM oM;have h2:=ju (A:=2097152) (B:=2097152) (a:=v.y) (b:=v.y) oM oM;have h3:=ju (A:=2097152) (B:=16384) (a:=v.x) (b:=w) oM oM;have h4:=ju (A:=2097152) (B:=16384) (a:= -v.y) (b:=w) oM oM;have h5:=ja v.x;have h6:=ja v.y;have h7:=zgo (n:=65536*(v.x*v.x+v.y*v.y)) oM oM;have h8:=zxl (n:=65536*(v.x*v.x+v.y*v.y)) oM oM;exact⟨oM,oM,oM,oM,h7.1,h8⟩
def zaV(v:Pt)(w:Int):(-4398046511104<=(z5 v w).x/\(z5 v w).x<=4398046511104)/\(-4398046511104<=(z5 v w).y/\(z5 v w).y<=4398046511104):=by
 unfold z5
 split
 ·exact⟨⟨dC,dC⟩,⟨dC,dC⟩⟩
 rename_i h;rw[not_or,not_or,not_or]at h;have hf:=zhz (Xa.1 h.1) h.2.1 h.2.2.1;exact⟨uV (M:=4398046511104) oM,uV (M:=4398046511104) oM⟩
def zkb(v:Pt)(w:Int):CX 474 [wk v,i64 w] (wk (z5 v w)):=by
 refine zc func474 ?_
 have bad:(¬ki w∨zbq v.x∨zbq v.y∨v=zp)->LE (wk zp) (wk (z5 v w)):=λh=>by
  unfold z5;rw[Xe h];exact .refl
 refine wg (vN w)<|⟨λa1=>bad (.inl a1),λa1=>?_⟩;refine wg (zCq v.x)<|⟨λa2=>bad (.inr (.inl a2)),λa2=>?_⟩;refine wg (zCq v.y)<|⟨λa3=>bad (.inr (.inr (.inl a3))),λa3=>?_⟩;refine⟨λa4=>bad (.inr (.inr (.inr (qi.1 a4)))),λa4=>?_⟩;have a1:=Xa.1 a1;have hf:=zhz a1 a2 a3;have a4:¬v=zp:=λh=>a4 (qi.2 h)
 (iterate 5 refine wa ?_);refine wg (zxn (65536*(v.x*v.x+v.y*v.y)) oM)<|wa<|wc ?_;unfold ki at a1;unfold zbq at a2 a3;(iterate 3 refine wa ?_);refine wg (uT (-v.y*w*128) (isq (65536*(v.x*v.x+v.y*v.y))) ⟨oM,oM⟩ ⟨oM,oM⟩) ?_;rw[uH oM];(iterate 2 refine wa ?_);refine wg (uT (v.x*w*128) (isq (65536*(v.x*v.x+v.y*v.y))) ⟨oM,oM⟩ ⟨oM,oM⟩) ?_;rw[uH oM];unfold z5
 rw[Xc (by unfold ki zbq;intro h;rcases h with h|h|h|h <;> first|exact a4 h|omega)];exact .refl
def zgu(v:Pt)(w:Int):CX 456 [wk v,i64 w] (wk (z5 v w)):=by
 refine zc func456 ?_
 have bad:(¬ki w∨zbq v.x∨zbq v.y∨v=zp)->LE (wk zp) (wk (z5 v w)):=λh=>by
  unfold z5;rw[Xe h];exact .refl
 have far:∀n:Int,¬(-2097152<=n/\n<=2097152)->zbq n:=λn h=>by unfold zbq;omega
 refine wg (zn4 w)<|⟨λa1=>bad (.inl a1),λa1=>?_⟩;refine wg (zaf v.x (-2097152) 2097152)<|⟨λa2=>bad (.inr (.inl (far _ a2))),λa2=>?_⟩;refine wg (zaf v.y (-2097152) 2097152)<|⟨λa3=>bad (.inr (.inr (.inl (far _ a3)))),λa3=>?_⟩;have a1:=Xa.1 a1;have b2:¬zbq v.x:=by unfold zbq;omega
 have b3:¬zbq v.y:=by unfold zbq;omega
 have hf:=zhz a1 b2 b3;(iterate 5 refine wa ?_);refine wg (ztB (65536*(v.x*v.x+v.y*v.y)) oM)<|wa<|wc ?_;(iterate 3 refine wa ?_);refine wg (ub (-v.y*w*128) (isq (65536*(v.x*v.x+v.y*v.y))) ⟨oM,oM⟩ ⟨oM,oM⟩) ?_;rw[uH oM];(iterate 2 refine wa ?_);refine wg (ub (v.x*w*128) (isq (65536*(v.x*v.x+v.y*v.y))) ⟨oM,oM⟩ ⟨oM,oM⟩) ?_;rw[uH oM]
 by_cases a4:v=zp
 ·have e1:z6 (-v.y*w*128) (isq (65536*(v.x*v.x+v.y*v.y)))=0:=by
   rw[a4,show-zp.y*w*128=0 by show(-0:Int)*w*128=0;simp];exact zmk
  have e2:z6 (v.x*w*128) (isq (65536*(v.x*v.x+v.y*v.y)))=0:=by
   rw[a4,show zp.x*w*128=0 by show(0:Int)*w*128=0;simp];exact zmk
  rw[e1,e2];exact bad (.inr (.inr (.inr a4)))
 unfold z5;rw[Xc (by intro h;rcases h with h|h|h|h <;> first|exact a4 h|exact h a1|exact b2 h|exact b3 h)];exact .refl
structure Pl where
 pts:LU
 cl:Bool
def plE(q:Pl):LR:=[.sl ptE q.pts,pr (q.cl=true)]
def zk(r:LU):LR:=[.sl ptE r]
def qU:LU->LU
 |[]=>[]
 |p::r=>match r with
  |[]=>[p]
  |q::_=>if p=q then qU r else p::qU r
def qf(l:LU):LU:=if 1<l.length/\l.getLast?=l.head? then l.dropLast else l
def zt(p:Pl):Pl:=⟨if p.cl then qf (qU p.pts) else qU p.pts,p.cl⟩
def jB:LU->Prop
 |[]=>True
 |p::r=>(∀q,r.head?=some q->p≠q)/\jB r
def zkc:∀l:LU,(qU l).head?=l.head?
 |[]=>rfl
 |[p]=>rfl
 |p::q::r=>by
  unfold qU;dsimp only
  split
  ·rename_i h;rw[zkc (q::r),h];rfl
  rfl
def uc:∀l:LU,jB (qU l)
 |[]=>trivial
 |[p]=>⟨λ_ h=>(by cases h),tV⟩
 |p::q::r=>by
  unfold qU;dsimp only
  split
  ·exact uc (q::r)
  rename_i h;refine⟨λz hz=>?_,uc (q::r)⟩;rw[zkc]at hz
  cases hz
  exact h
def zeq:∀{l:LU} {p:Pt},p∈qU l->p∈l
 |[],_,h=>h
 |[q],_,h=>h
 |a::q::r,p,h=>by
  unfold qU at h;dsimp only at h
  split at h
  ·exact .tail _ (zeq h)
  cases h with
  |head=>exact .head _
  |tail _ h=>exact .tail _ (zeq h)
def nth(l:LU)(i:Nat):Pt:=l.getD i zp
def kU(p:Pl)(pen:Pen):LQ:=
 ((List.range (p.pts.length-1)).flatMap λi=>kM (jU (nth p.pts i) (nth p.pts (i+1)) pen.w))++
 (if p.cl/\1<p.pts.length then kM (jU (nth p.pts (p.pts.length-1)) (nth p.pts 0) pen.w) else[])
def jc(p:Pl)(pen:Pen):LQ:=
 if p.pts.length<=1 then[] else
 (List.range p.pts.length).flatMap λi=>if¬p.cl=true/\(i=0∨i=p.pts.length-1) then[]
  else qY (nth p.pts ((i+p.pts.length-1)%p.pts.length)) (nth p.pts i) (nth p.pts ((i+1)%p.pts.length)) pen
def y5(a b:Pt)(pen:Pen):LU:=if pen.c=5 then zj5 a b pen.w else if pen.c=3 then vC b pen.w else[]
def zbd(p:Pt)(pen:Pen):LU:=if pen.c=5 then zdE p pen.w else if pen.c=3 then vC p pen.w else[]
def zdJ(p:Pl)(pen:Pen):LQ:=
 if p.pts.length=1 then kM (zbd (nth p.pts 0) pen)
 else if 1<p.pts.length/\¬p.cl=true then kM (y5 (nth p.pts 1) (nth p.pts 0) pen)++kM (y5 (nth p.pts (p.pts.length-2)) (nth p.pts (p.pts.length-1)) pen) else[]
def ku(p:Pl)(pen:Pen):LQ:=kU p pen++jc p pen++zdJ p pen
def qa(l:LQ):Nat:=(l.map List.length).sum
def kz(p:Pl)(pen:Pen):LQ×Int:=
 if¬kC pen then([],13) else if¬∀q∈p.pts,zr q then([],6) else if 4096<p.pts.length then([],5)
 else if¬∀r∈ku (zt p) pen,∀q∈r,zr q then([],6) else if 4096<qa (ku (zt p) pen) then([],5) else(ku (zt p) pen,0)
def qk:List Pl->Pen->LQ×Int
 |[],_=>([],0)
 |p::r,pen=>if (kz p pen).2≠0 then([],(kz p pen).2)
  else if (qk r pen).2≠0 then([],(qk r pen).2) else((kz p pen).1++(qk r pen).1,0)
def qo(l:List Pl)(pen:Pen):LQ×Int:=
 if¬kC pen then([],13) else if (qk l pen).2≠0 then([],(qk l pen).2) else if 4096<qa (qk l pen).1 then([],5) else((qk l pen).1,0)
def ym(a b c:Pt):Int:=(a.x-2*b.x+c.x)*(a.x-2*b.x+c.x)+(a.y-2*b.y+c.y)*(a.y-2*b.y+c.y)
def enough(need tol:Int)(n:Nat):Prop:=need<=16*n*n*n*n*tol*tol
instance (need tol:Int) (n:Nat):Decidable (enough need tol n):=inferInstanceAs (Decidable (_<=_))
def yy(need tol:Int):Nat->Nat->Int×Int
 |0,_=>(0,11)
 |k+1,n=>if enough need tol n then(n,0) else yy need tol k (n+1)
def kV(need tol:Int)(l:LU):Int×Int:=if¬(1<=tol/\tol<=256) then(0,2) else if¬∀p∈l,zr p then(0,6) else yy need tol 64 1
def jV(a b c:Pt)(tol:Int):Int×Int:=kV (ym a b c) tol [a,b,c]
def jW(a b c d:Pt)(tol:Int):Int×Int:=kV (9*max (ym a b c) (ym b c d)) tol [a,b,c,d]
def zpN(l:LU)(i n:Int):Prop:=(∀p∈l,zr p)/\1<=n/\n<=64/\0<=i/\i<=n
instance (l:LU) (i n:Int):Decidable (zpN l i n):=wi
def q1(i n a b c:Int):Int:=zdD ((n-i)*(n-i)*a+2*i*(n-i)*b+i*i*c) (n*n)
def yT(a b c:Pt)(i n:Int):Pt:=if¬zpN [a,b,c] i n then zp else⟨q1 i n a.x b.x c.x,q1 i n a.y b.y c.y⟩
def c1(i n a b c d:Int):Int:=zdD ((n-i)*(n-i)*(n-i)*a+3*i*(n-i)*(n-i)*b+3*i*i*(n-i)*c+i*i*i*d) (n*n*n)
def yU(a b c d:Pt)(i n:Int):Pt:=if¬zpN [a,b,c,d] i n then zp else⟨c1 i n a.x b.x c.x d.x,c1 i n a.y b.y c.y d.y⟩
def zb4(f:Int->Pt)(n:Nat):LU:=(List.range n).map λ(i:Nat)=>f ((i:Int)+1)
def zc2(a b c:Pt)(tol:Int):LU×Int:=if (jV a b c tol).2≠0 then([],(jV a b c tol).2) else(zb4 (λi=>yT a b c i (jV a b c tol).1) (jV a b c tol).1.toNat,0)
def zc3(a b c d:Pt)(tol:Int):LU×Int:=if (jW a b c d tol).2≠0 then([],(jW a b c d tol).2) else(zb4 (λi=>yU a b c d i (jW a b c d tol).1) (jW a b c d tol).1.toNat,0)
def kL(rs:LQ):Prop:=(qa rs:Int)<=4096/\∀r∈rs,∀p∈r,zr p
instance (rs:LQ):Decidable (kL rs):=wi
def zer(r:LU):kL [r]↔zn2 r:=by
 unfold kL zn2 qa;simp
def ziq(xs:LU):Int:=match xs.findIdx? (λp=>decide (¬zr p)) with
 |some i=>i
 |none=> -1
def zpO{xs:LU}{i:Nat}{p:Pt}(h:∀(j:Nat) q,j<i->xs[j]?=some q->zr q)(hi:xs[i]?=some p)(hp:¬zr p):ziq xs=i:=by
 have:xs.findIdx? (λp=>decide (¬zr p))=some i:=by
  rw[KG];obtain⟨hl,he⟩:=Xd.1 hi;refine⟨hl,by simp[he,hp],λj hj=>?_⟩;have:=h j xs[j] hj (Xb _);simp[this]
 simp only[ziq,this]
variable{xs:LU}
def zfz(h:∀p∈xs,zr p):ziq xs= -1:=by
 have:xs.findIdx? (λp=>decide (¬zr p))=none:=by
  rw[Ku];intro p hp;simp[h p hp]
 simp only[ziq,this]
def zgv:0<=ziq xs↔¬∀p∈xs,zr p:=by
 constructor
 ·intro h hall;rw[zfz hall]at h;omega
 intro h;unfold ziq
 split
 ·omega
 rename_i hn;rw[Ku]at hn;exact absurd (λp hp=>by simpa using hn p hp) h
def zxz(p:Pt):CX 165 [wk p] (pr (¬zr p)):=by
 exact zc func165<|wg (kY p)<|zE K5
def zAE(xs:LU):CX 239 [.sl ptE xs,.fn 165 []] (i64 (ziq xs)):=by
 refine zc func239 λhl0=>?_;refine⟨Int,λi=>⟨[(8,i64 i),(7,i64 xs.length),(0,.sl ptE xs),(1,.fn 165 [])],[],0,19,0⟩,λi=>0<=i/\i<=xs.length/\∀(j:Nat) q,(j:Int)<i->xs[j]?=some q->zr q,λi=>((xs.length:Int)-i).toNat,0,?_,?_,?_⟩
 ·exact⟨oM,oM,λj q hj=>by omega⟩
 ·exact zB []
 rintro i ⟨h1,h2,h3⟩
 refine⟨λh4=>?_,λh4=>?_⟩
 ·refine wb λx hx=>wg (zxz x)<|⟨λh5=>?_,λh5=>?_⟩
  ·refine ze ?_;rw[zpO (i:=i.toNat) (λj q hj=>h3 j q oM) hx h5];omega
  refine wa<|⟨i+1,⟨oM,oM,λj q hj hq=>?_⟩,zB [],oN⟩
  by_cases e:j=i.toNat
  ·subst e;rw[hx]at hq;cases hq;exact Xa.1 h5
  exact h3 j q oM hq
 refine ze (zfz λp hp=>?_).symm;obtain⟨j,hj,he⟩:=Kl hp;exact h3 j p oM (by rw[←he];exact Xb hj)
def zr9(xs:LU):CX 164 [.sl ptE xs,.fn 165 []] (pr (¬∀p∈xs,zr p)):=by
 exact zc func164<|wg (zAE xs)<|zE zgv
def u7{rs:LQ}{i:Nat}{r:LU}(h:rs[i]?=some r):qa (rs.take (i+1))=qa (rs.take i)+r.length:=by
 unfold qa;rw[Xl,h];simp
def v7(rs:LQ)(i:Nat):qa (rs.take i)<=qa rs:=by
 unfold qa
 conv=>rhs;rw[←Kj i rs]
 rw[XA,QM];omega
variable{rs:LQ}{r:LU}
def zcK(h:rs[i]?=some r)(ha:∀q∈rs.take i,∀p∈q,zr p)(hr:∀p∈r,zr p):∀q∈rs.take (i+1),∀p∈q,zr p:=by
 rw[Xl,h];intro q hq
 rcases Xs.1 hq with hq|hq
 ·exact ha q hq
 rw[Qt,Xu]at hq;exact hq ▸ hr
def zgw(rs:LQ)(hs:∀r∈rs,(r.length:Int)<=9223372036854771711):CX 112 [.sl zk rs] (pr (kL rs)):=by
 refine zc func112 λhl1=>?_;refine⟨Nat,λi=>⟨[(3,i64 (qa (rs.take i):Int)),(8,i64 i),(7,i64 rs.length),(6,.sl zk rs)],[],0,23,0⟩,λi=>i<=rs.length/\(qa (rs.take i):Int)<=4096/\∀q∈rs.take i,∀p∈q,zr p,λi=>rs.length-i,0,?_,?_,?_⟩
 ·exact⟨Xh _,by show((0:Nat):Int)<=4096;decide,λq hq=>by cases hq⟩
 ·exact zB []
 rintro i ⟨h1,h2,h3⟩
 refine⟨λg=>?_,λg=>?_⟩
 ·refine wb λr(hr:rs[i]?=some r)=>?_;have hrl:=hs r (Xf hr);have hc:=u7 hr;have hcl:=v7 rs (i+1);intro hl2;refine wa<|Br.mk (λa1=>zd (λk=>by have:=k.1;omega)) (λa1=>?_);refine wg (zr9 r)<|⟨λa2=>zd (λk=>a2 (k.2 r (Xf hr))),λa2=>?_⟩;refine wa ?_;have e:(qa (rs.take i):Int)+(r.length:Int)=((qa (rs.take (i+1)):Nat):Int):=oM;refine⟨i+1,⟨oM,oM,zcK hr h3 (Xa.1 a2)⟩,?_,oN⟩;dsimp only;rw[←e]
  exact zB []
 rw[Xi oM]at h2 h3;exact zH ⟨h2,h3⟩
def zkd(rs:LQ):CX 151 [.sl zk rs] (pr (kL rs)):=by
 refine zc func151<|⟨Nat,λi=>⟨[(3,i64 (qa (rs.take i):Int)),(4,i64 i),(0,.sl zk rs)],[],0,45,0⟩,λi=>i<=rs.length/\(qa (rs.take i):Int)<=4096/\∀q∈rs.take i,∀p∈q,zr p,λi=>rs.length-i,0,?_,?_,?_⟩
 ·exact⟨Xh _,by show((0:Nat):Int)<=4096;decide,λq hq=>by cases hq⟩
 ·exact zB []
 rintro i ⟨h1,h2,h3⟩
 intro hl1;refine⟨λg=>?_,λg=>?_⟩
 ·refine wb λr(hr:rs[i]?=some r)=>?_;have hc:=u7 hr;have hcl:=v7 rs (i+1);intro hl2;refine wa<|Br.mk (λa1=>zd (λk=>by have:=k.1;omega)) (λa1=>?_);refine wb λr' hr'=>?_;have e:r'=r:=Xm ((show rs[i]?=some r' from hr').symm.trans hr);rw[e];intro hl3;refine wa ?_;have e:(qa (rs.take i):Int)+(r.length:Int)=((qa (rs.take (i+1)):Nat):Int):=oM;rw[e]
  refine⟨Nat,λk=>⟨[(5,i64 k),(3,i64 (qa (rs.take (i+1)):Int)),(4,i64 i),(0,.sl zk rs)],[],0,45,0⟩,λk=>k<=r.length/\∀p∈r.take k,zr p,λk=>r.length-k,0,?_,?_,?_⟩
  ·exact⟨Xh _,λq hq=>by cases hq⟩
  ·exact zB []
  rintro k ⟨k1,k2⟩
  refine wb λr' hr'=>?_;have e:r'=r:=Xm ((show rs[i]?=some r' from hr').symm.trans hr);rw[e];intro hl4;refine⟨λg2=>?_,λg2=>?_⟩
  ·refine wb λr' hr'=>?_;have e:r'=r:=Xm ((show rs[i]?=some r' from hr').symm.trans hr);rw[e];refine wb λx(hx:r[k]?=some x)=>?_;refine wg (z9 x)<|⟨λa2=>zd (λkk=>a2 (kk.2 r (Xf hr) x (Xf hx))),λa2=>?_⟩;refine wa<|⟨k+1,⟨oM,?_⟩,zB [],oN⟩;rw[Xl,hx];intro q hq
   rcases Xs.1 hq with hq|hq
   ·exact k2 q hq
   rw[Qt,Xu]at hq;exact hq ▸ Xa.1 a2
  rw[Xi oM]at k2;exact wa<|⟨i+1,⟨oM,oM,zcK hr h3 k2⟩,zB [],oN⟩
 rw[Xi oM]at h2 h3;exact zH ⟨h2,h3⟩
def zDj(n:Int)(p q:Pt)(hn: -4611686018427387904<=n/\n<=4611686018427387904):
  CG0 491 [wk p,wk q,.loc 0 0] [(0,.box 3 [i64 n])] (.tup []) [(0,.box 3 [i64 (n+zaw p q)])]:=by
 have hc:=zb2 (jo p) (jo q);exact un tok mix func491 rfl rfl rfl rfl rfl<|wc<|wg (zAB p q)<|Ar.fit (by unfold zaw;omega)<|⟨rfl,.refl⟩
def ziZ{n:Nat}(h:i<n):((i:Int)+1)%(n:Int)=(((i+1)%n:Nat):Int):=by rw[QV,QK];rfl
def zmp{x y:Pt}(hx:r[i]?=some x)(hy:r[(((i:Int)+1)%(r.length:Int)).toNat]?=some y)(h:i<r.length):u6 r (i+1)=u6 r i+zaw x y:=by
 rw[ziZ h,XT]at hy;rw[zfw,Xt,Xt,hx,hy];rfl
def zDk(r:LU)(hr:r.length<=4096):
  CG0 115 [.sl ptE r,.fn 491 [.loc 0 0]] [(0,.box 3 [i64 0])] (.tup []) [(0,.box 3 [i64 (u6 r r.length)])]:=by
 refine un tok mix func115 rfl rfl rfl rfl rfl λhl1=>?_;refine⟨Nat,λi=>⟨[(8,i64 i),(7,i64 r.length),(6,.sl ptE r),(0,.sl ptE r),(1,.fn 491 [.loc 0 0])],[(0,.box 3 [i64 (u6 r i)])],1,25,1⟩,λi=>i<=r.length,λi=>r.length-i,0,?_,?_,?_⟩
 ·exact Xh _
 ·exact zf [0]
 rintro i h1
 refine⟨λg:(i:Int)<r.length=>?_,λg=>?_⟩
 ·refine wb λx hx=>wd<|wa λhl2=>Dv.pos ⟨oM,oM⟩ ?_;have q1:=Kb ((i:Int)+1) (b:=(r.length:Int)) oM;have q2:=X5 ((i:Int)+1) (b:=(r.length:Int)) oM;refine Ob.mk ⟨q1,q2⟩ λy hy=>?_;have hx:r[i]?=some x:=hx;have hy:r[(((i:Int)+1)%(r.length:Int)).toNat]?=some y:=hy;have ha:=zik r i;refine zb.hand 0 _ _ _ rfl (zDj (u6 r i) x y oM) rfl rfl rfl rfl<|wh<|wa ?_
  have e:u6 r (i+1)=u6 r i+zaw x y:=zmp hx hy oM;refine⟨i+1,oM,?_,oN⟩;dsimp only;rw[e];exact zf [0]
 have e:i=r.length:=by have g:¬(i:Int)<r.length:=g;omega
 subst e;exact⟨rfl,.refl⟩
def zDl(r:LU)(hr:(r.length:Int)<=9223372036854771711):CX 475 [.sl ptE r] (i64 (zb3 r)):=by
 refine zc func475<|⟨LU,zk,[r],rfl,wb0 ?_⟩;refine zb.see 0 _ (zgw [r] (λq hq=>by rw[Xu]at hq;exact hq ▸ hr)) rfl rfl rfl<|Br.mk (λa1=>?_) (λa1=>?_)
 ·refine ze ?_;unfold zb3;rw[Xc (λh=>a1 ((zer r).2 h))]
 have a1:=(zer r).1 (Xa.1 a1);refine zb.give [1] 0 [.sl ptE r,.fn 491 [.loc 0 0]] [(0,.box 3 [i64 0])] [(0,.box 3 [i64 (u6 r r.length)])] (.tup []) (zDk r (by have:=a1.1;omega)) LEs.refl rfl rfl rfl ⟨⟨_,rfl,rfl,rfl⟩,tV⟩ rfl ⟨⟨rfl,rfl⟩,tV⟩<|ze ?_;unfold zb3;rw[Xe a1]
def zxA(r:LU)(i:Nat)(y:Pt)(h:i<r.length/\r.length<=4096)(hy:r[(((i:Int)+1)%(r.length:Int)).toNat]?=some y):
  CX 180 [.sl ptE r,i64 i] (wk y):=by
 refine zc func180<|wa λhl1=>Dv.pos ⟨oM,oM⟩ ?_;have q1:=Kb ((i:Int)+1) (b:=(r.length:Int)) oM;have q2:=X5 ((i:Int)+1) (b:=(r.length:Int)) oM;refine Ob.mk ⟨q1,q2⟩ λz hz=>?_;have e:z=y:=Xm ((show r[(((i:Int)+1)%(r.length:Int)).toNat]?=some z from hz).symm.trans hy);rw[e];exact .refl
def zDm(r:LU):CX 484 [.sl ptE r] (i64 (zb3 r)):=by
 refine zc func484<|⟨LU,zk,[r],rfl,wb0 ?_⟩;refine zb.see 0 _ (zkd [r]) rfl rfl rfl<|Br.mk (λa1=>?_) (λa1=>?_)
 ·refine ze ?_;unfold zb3;rw[Xc (λh=>a1 ((zer r).2 h))]
 have a1:=(zer r).1 (Xa.1 a1);have hr:r.length<=4096:=by have:=a1.1;omega
 refine⟨Nat,λi=>⟨[(4,i64 i),(3,i64 (u6 r i)),(0,.sl ptE r)],[],1,26,0⟩,λi=>i<=r.length,λi=>r.length-i,0,?_,?_,?_⟩
 ·exact Xh _
 ·exact zB []
 rintro i h1
 intro hl1;refine⟨λg:(i:Int)<r.length=>?_,λg=>?_⟩
 ·refine wc<|wb λx(hx:r[i]?=some x)=>?_;have hj:(i+1)%r.length<r.length:=Kk _ oM;obtain⟨y,hy0⟩:∃y,r[(i+1)%r.length]?=some y:=⟨_,Xb hj⟩;have hy:r[(((i:Int)+1)%(r.length:Int)).toNat]?=some y:=by rw[ziZ oM,XT];exact hy0
  refine wg (zxA r i y ⟨oM,hr⟩ hy)<|wg (zAC x y) ?_;have ha:=zik r i;have hc:=zb2 (jo x) (jo y);refine Ar.fit (by unfold zaw;omega)<|wa ?_;have e:u6 r (i+1)=u6 r i+zaw x y:=zmp hx hy oM;refine⟨i+1,oM,?_,oN⟩;dsimp only;rw[e];exact zB []
 have e:i=r.length:=by have g:¬(i:Int)<r.length:=g;omega
 subst e;refine ze ?_;unfold zb3;rw[Xe a1]
def orP(a b p:Pt):Int:=wdg (zad b a) (zad p a)
def zag(a b p:Pt):Int:=if a.y<=p.y/\p.y<b.y/\0<orP a b p then 1 else if b.y<=p.y/\p.y<a.y/\0<orP b a p then-1 else 0
def zir(a b p:Pt): -1<=zag a b p/\zag a b p<=1:=by
 unfold zag;split
 ·omega
 split <;> omega
def zaF(r:LU)(p:Pt)(n:Nat):Int:=((List.range n).map λi=>zag (r.getD i zp) (r.getD ((i+1)%r.length) zp) p).sum
def zke(r:LU)(p:Pt)(n:Nat):zaF r p (n+1)=zaF r p n+zag (r.getD n zp) (r.getD ((n+1)%r.length) zp) p:=by
 unfold zaF;rw[Kw,XA,QM];simp
def zdK(r:LU)(p:Pt)(n:Nat): -(n:Int)<=zaF r p n/\zaF r p n<=n:=by
 induction n with
 |zero=>exact⟨by simp[zaF],by simp[zaF]⟩
 |succ n ih=>
  have:=zir (r.getD n zp) (r.getD ((n+1)%r.length) zp) p;rw[zke];omega
variable{p:Pt}
def zmq{x y:Pt}(hx:r[i]?=some x)(hy:r[(((i:Int)+1)%(r.length:Int)).toNat]?=some y)(h:i<r.length):zaF r p (i+1)=zaF r p i+zag x y p:=by
 rw[ziZ h,XT]at hy;rw[zke,Xt,Xt,hx,hy];rfl
def zbA(rs:LQ)(p:Pt)(n:Nat):Int:=((List.range n).map λi=>zaF (rs.getD i []) p (rs.getD i []).length).sum
def zfA{n:Nat}(h:rs[n]?=some r):zbA rs p (n+1)=zbA rs p n+zaF r p r.length:=by
 unfold zbA;rw[Kw,XA,QM];simp[Xt,h]
def zbB(rs:LQ)(p:Pt):∀n,n<=rs.length-> -(qa (rs.take n):Int)<=zbA rs p n/\zbA rs p n<=qa (rs.take n)
 |0,_=>⟨by simp[zbA],by simp[zbA]⟩
 |n+1,h=>by
  have ih:=zbB rs p n oM;obtain⟨r,hr⟩:∃r,rs[n]?=some r:=⟨_,Xb oM⟩;have:=zdK r p r.length;rw[zfA hr,u7 hr];omega
def zkf(rs:LQ)(p:Pt):Int:=if kL rs/\zr p then zbA rs p rs.length else 0
def zpP(rs:LQ)(p:Pt): -4096<=zkf rs p/\zkf rs p<=4096:=by
 unfold zkf;split
 ·rename_i h;have h1:=zbB rs p rs.length (Xk _);have h2:=v7 rs rs.length;have h3:=h.1.1;omega
 omega
def zcL(n rule:Int):Prop:=rule=1/\n≠0∨rule=2/\n%2≠0
instance (n rule:Int):Decidable (zcL n rule):=wj
def uo(rs:LQ)(rule:Int)(p:Pt):Prop:=zcL (zkf rs p) rule
instance (rs:LQ) (rule:Int) (p:Pt):Decidable (uo rs rule p):=inferInstanceAs (Decidable (zcL _ _))
def zpQ(r:LU)(hr:r.length<=4096):CX 224 [.sl ptE r] (.sl ptE r):=by
 refine zc func224<|⟨Pt,ptE,[],rfl,wb2 ?_⟩;refine⟨Nat,λi=>⟨[(4,i64 i),(3,.own 0),(0,.sl ptE r)],[(0,.arr 28 ptE 2 (r.take i))],1,20,0⟩,λi=>i<=r.length,λi=>r.length-i,0,?_,?_,?_⟩
 ·exact Xh _
 ·exact zf [0]
 rintro i h1
 intro hl1;refine⟨λg:(i:Int)<r.length=>?_,λg=>?_⟩
 ·refine wb λx(hx:r[i]?=some x)=>?_;refine⟨Pt,ptE,[x],rfl,wb0 ?_⟩;have hlt:(r.take i).length=i:=by rw[Xo];omega
  refine⟨[x],rfl,Ob.mk ⟨(by show _*(16:Int)<=_;simp only[hlt,Xn,Xr];omega),(by simp only[hlt,Xn,Xr];omega),dC,λ_ _=>rfl⟩ ?_⟩;exact wa<|⟨i+1,oM,zu [2] ⟨aR (by rw[Xl,hx];rfl),tV⟩,oN⟩
 exact zZ (by rw[Xi (by have g:¬(i:Int)<r.length:=g;omega)])
def zmr:zb3 []=0:=by decide +kernel
def zhA{r:LU}(h:zb3 r≠0):r.length<=4096:=by
 unfold zb3 at h
 split at h
 ·rename_i k;have:=k.1;omega
 exact absurd rfl h
def zbe(r:LU):CX 458 [.sl ptE r] (.sl ptE (kE r)):=by
 refine zc func458<|wg (zDm r)<|⟨λa1=>?_,λa1=>?_⟩
 ·exact wg (zpQ r (zhA oM))<|zZ (show r=kE r by unfold kE;rw[Xc oM,Xc oM])
 refine⟨Pt,ptE,[],rfl,wb2 ?_⟩;refine⟨λa2=>?_,λa2=>?_⟩
 ·have hr:=zhA (r:=r) oM;have e:kE r=ztz r:=by unfold kE;rw[Xc oM,Xe a2]
  cases r with
  |nil=>rw[zmr]at a2;omega
  |cons p q=>
   have hq:q.length+1<=4096:=hr;have hL:((p::q).length:Int)=q.length+1:=by simp only[Xn];omega
   refine wb5 λx hx=>?_;have hx:some p=some x:=hx
   cases hx
   refine⟨Pt,ptE,[p],rfl,wb0 ?_⟩;refine⟨[p],rfl,wb3 ?_⟩;intro hl1;refine wa<|⟨Nat,λi=>⟨[(5,i64 i),(4,.own 0),(0,.sl ptE (p::q))],[(0,.arr 28 ptE 2 (p::(q.drop i).reverse))],1,36,0⟩,λi=>i<=q.length,λi=>i,q.length,?_,?_,?_⟩
   ·exact Xk _
   ·exact zS [2] ⟨iR oM,rfl,rfl,tV⟩ ⟨aR (by rw[List.drop_length];rfl),tV⟩
   rintro i h1
   refine⟨λg:(0:Int)<i=>?_,λg:¬(0:Int)<i=>?_⟩
   ·obtain⟨j,rfl⟩:∃j,i=j+1:=⟨i-1,oM⟩;refine wb5 λy(hy:q[j]?=some y)=>?_;refine⟨Pt,ptE,[y],rfl,wb0 ?_⟩;refine⟨[y],rfl,Ob.mk ⟨(by show _*(16:Int)<=_;simp only[Xn,Xr,KU,Kv];omega),(by simp only[Xn,Xr,KU,Kv];omega),dC,λ_ _=>rfl⟩ ?_⟩;refine wa ?_
    refine⟨j,oM,zS [2] ⟨iR (show((j+1:Nat):Int)-1=(j:Int) by omega),rfl,rfl,tV⟩ ⟨aR ?_,tV⟩,oN⟩;rw[zgp hy,List.reverse_cons];rfl
   have h0:i=0:=oM;subst h0;refine zZ ?_;rw[e];rfl
 refine zZ ?_;unfold kE;rw[Xe oM]
def zpR(q:LU)(i k:Nat):Pt:=if k<i∨q.length<=k+i then q.getD (q.length-1-k) zp else q.getD k zp
def zfB(q:LU)(i:Nat):LU:=(List.range q.length).map (zpR q i)
def zpS(q:LU)(i:Nat):(zfB q i).length=q.length:=by unfold zfB;simp
def zdL(q:LU)(i k:Nat):(zfB q i)[k]?=if k<q.length then some (zpR q i k) else none:=by
 unfold zfB;rw[XD]
 by_cases h:k<q.length
 ·rw[Xe h,Ql h];rfl
 rw[Xc h,XF (by simp;omega)];rfl
variable{q:LU}
def zpT{k:Nat}(h:k<q.length):q[k]?=some (q.getD k zp):=by
 rw[Xt,Xb h];rfl
def zva(q:LU):zfB q 0=q:=by
 refine Kq λk=>?_
 rw[zdL]
 by_cases h:k<q.length
 ·rw[Xe h,zpT h];unfold zpR;rw[Xc oM]
 rw[Xc h,XF oM]
def zxB(h:q.length<=2*i+1):zfB q i=q.reverse:=by
 refine Kq λk=>?_
 rw[zdL]
 by_cases hk:k<q.length
 ·rw[Xe hk,QP hk,zpT oM];unfold zpR
  by_cases c:k<i∨q.length<=k+i
  ·rw[Xe c]
  rw[Xc c,show q.length-1-k=k by omega]
 rw[Xc hk,XF (by simp;omega)]
def zvb(h:2*i+1<q.length):
  ((zfB q i).set i (q.getD (q.length-1-i) zp)).set (q.length-1-i) (q.getD i zp)=zfB q (i+1):=by
 refine Kq λk=>?_
 rw[KA,KA,XV,zpS,zdL,zdL]
 by_cases hk:k<q.length
 ·rw[Xe hk,Xe hk]
  by_cases c1:q.length-1-i=k
  ·rw[Xe c1,Xe oM];unfold zpR;rw[Xe oM,show q.length-1-k=i by omega]
  rw[Xc c1]
  by_cases c2:i=k
  ·rw[Xe c2,Xe oM];unfold zpR;rw[Xe oM,c2]
  rw[Xc c2];unfold zpR
  by_cases c3:k<i∨q.length<=k+i
  ·rw[Xe c3,Xe oM]
  rw[Xc c3,Xc oM]
 rw[Xc oM,Xc oM,Xc hk,Xc hk]
def ztH{k:Nat}(hk:k<q.length)(h:i<=k/\k+i<q.length):(zfB q i)[k]?=some (q.getD k zp):=by
 rw[zdL,Xe hk];unfold zpR;rw[Xc oM]
def p_rev(p:Pt)(q:LU)(hq:q.length<=4096):CG0 476 [.win 0 2 1 (q.length:Int)] [(0,.arr 28 ptE 2 (p::q))] (.tup []) [(0,.arr 28 ptE 2 (p::q.reverse))]:=by
 refine un tok mix func476 rfl rfl rfl (λ_ _=>rfl) rfl<|wb<|wa<|⟨Nat,λi=>⟨[(3,i64 ((q.length:Int)-1-i)),(2,i64 i),(0,.win 0 2 1 (q.length:Int))],[(0,.arr 28 ptE 2 (p::zfB q i))],1,28,1⟩,λi=>2*i<=q.length,λi=>q.length-i,0,?_,?_,?_⟩
 ·exact Xh _
 ·exact zS [0] ⟨iR oM,rfl,rfl,tV⟩ ⟨Xg (λr=>some (Mem.arr 28 ptE 2 (p::r))) (zva q).symm,tV⟩
 rintro i h1
 refine⟨λg:(i:Int)<(q.length:Int)-1-i=>?_,λg:¬(i:Int)<(q.length:Int)-1-i=>?_⟩
 ·have hlen:(p::zfB q i).length=q.length+1:=by rw[Xn,zpS]
  refine wc<|wb6<|Ob.mk (by rw[hlen];omega) λx hx=>?_
  have hx:x=q.getD (q.length-1-i) zp:=by
   have e:(p::zfB q i)[(1+((q.length:Int)-1-i)).toNat]?=some x:=hx;rw[show(1+((q.length:Int)-1-i)).toNat=(q.length-1-i)+1 by omega,KL,ztH oM oM]at e;exact(Xm e).symm
  refine wb6<|Ob.mk (by rw[hlen];omega) λy hy=>?_
  have hy:y=q.getD i zp:=by
   have e:(p::zfB q i)[(1+(i:Int)).toNat]?=some y:=hy;rw[show(1+(i:Int)).toNat=i+1 by omega,KL,ztH oM oM]at e;exact(Xm e).symm
  refine wb6<|Ob.mk (by rw[hlen];omega) λx' _=>?_;refine⟨x,rfl,?_⟩;refine wb6<|Ob.mk (by rw[XV,hlen];omega) λy' _=>?_;refine⟨y,rfl,?_⟩;(iterate 2 refine wa ?_);refine⟨i+1,oM,zS [0] ⟨iR oM,rfl,rfl,tV⟩ ⟨aR ?_,tV⟩,oN⟩;show((p::zfB q i).set (1+(i:Int)).toNat x).set (1+((q.length:Int)-1-i)).toNat y=p::zfB q (i+1)
  rw[show(1+(i:Int)).toNat=i+1 by omega,show(1+((q.length:Int)-1-i)).toNat=(q.length-1-i)+1 by omega,JK,JK,hx,hy,zvb oM]
 refine⟨Xg (λr=>some (Mem.arr 28 ptE 2 (p::r))) (zxB oM),.refl⟩
def zn7(q:LU)(hq:q.length<=4096):CG0 248 [.sl ptE q] [] (.own 0) [(0,.arr 28 ptE 2 q)]:=by
 refine qC tok mix func248 rfl rfl rfl ?_
 by_cases h0:q=[]
 ·refine zeQ.any (Br.mk ?_ ?_)
  ·exact⟨none,.nil rfl,h0⟩
  refine⟨Pt,ptE,[],rfl,wb2 ?_⟩;refine⟨q,rfl,wb17 ?_⟩;exact⟨some 1,.own _ rfl,rfl,λ_ _=>rfl⟩
 refine zeQ.some (λh=>h0 (Xp h))<|⟨Pt,ptE,[],rfl,wb2 ?_⟩;refine⟨q,rfl,wb17 ?_⟩;exact⟨some 1,.own _ rfl,rfl,λ_ _=>rfl⟩
def zvc(p:Pt):zb3 [p]=0:=by
 unfold zb3
 split
 ·show u6 [p] 1=0;have e0:u6 [p] 0=0:=by unfold u6;rfl
  have e1:[p].getD 0 zp=p:=rfl;have e2:[p].getD ((0+1) % [p].length) zp=p:=by show[p].getD ((0+1)%1) zp=p;rw[Nat.mod_one];rfl
  rw[zfw,e0,e1,e2];unfold zaw;unfold wdg;rw[QU (js p).x];omega
 rfl
def zbf(r:LU)(hr:(r.length:Int)<=9223372036854771711):CX 437 [.sl ptE r] (.sl ptE (kE r)):=by
 refine zc func437<|wg (zDl r hr)<|⟨λa1=>?_,λa1=>?_⟩
 ·have e:kE r=[]:=by unfold kE;rw[Xe a1]
  rw[e];exact zC
 have hq:=zhA a1;refine zb.fresh _ _ (zn7 r hq) rfl (λ_ _=>rfl) (.inr (λ_ _=>rfl))<|⟨λa2=>?_,λa2=>?_⟩
 ·have e:kE r=ztz r:=by unfold kE;rw[Xc a1,Xe a2]
  cases r with
  |nil=>exact absurd zmr a1
  |cons p q=>
   have h0:q≠[]:=λh=>a1 (by rw[h];exact zvc p)
   have h2:0<q.length:=Ka λh=>h0 (Xp h)
   have hL:((p::q).length:Int)=(q.length:Int)+1:=by simp only[Xn];omega
   have hq:q.length<=4096:=by simp only[Xn]at hq;omega
   refine Sl.win (Ob.mk ⟨oM,oM,oM,oM⟩ ?_)
   have ct:CG0 476 [.win 0 2 1 (((p::q).length:Int)-1)] [(0,.arr 28 ptE 2 (p::q))] (.tup []) [(0,.arr 28 ptE 2 (p::q.reverse))]:=by
    rw[show((p::q).length:Int)-1=(q.length:Int) by omega];exact p_rev p q hq
   refine zb.hand 0 _ _ _ rfl ct (λ_ _=>rfl) (λ_ _=>rfl) rfl rfl ?_;rw[e];exact zZ rfl
 refine zZ (show r=kE r by unfold kE;rw[Xc a1,Xc a2])
abbrev wr(x:Pen):SV:=.agg (jb x)
abbrev ws(x:Pl):SV:=.agg (plE x)
abbrev LZ:=List Pl
end Go.Gs
