/- Quadtrees: insert. -/
import Derived.Test.YtdkomlilfdbahaaGreatDoorMBF
set_option maxRecDepth 100000
set_option maxHeartbeats 80000000
set_option linter.all false
namespace Go.Gs
open Proofs.Tryz
open Go.Proofs
section
def zeT{P:Program}{I:LS}(nk:Nat)(hT:TOK P I)(Q:P.follows .mixedOrders=true){f:FuncId}{fn:Func}{c:Code}{args:LR}{M M':LT}{r:SV}(z:M.length<=nk)(E:P.funcs[f]?=some fn)(D:fn.body=some c)(R:(fn.name== "runtime.NumGoroutine")=false) (m:Nat.ble args.length fn.ntmps=true)
  (h:js P I c ⟨qG 0 args,M,nk,fn.ntmps,M.length⟩ (endG I fn.results.toList r M')):kL P f args M r M':=by
 refine⟨⟨fn,E,R,by rw[D];rfl⟩,λKeep Z w vs _ t x L=>calls_of_wp E D ?_⟩;have d:=yU (nt:=fn.ntmps) t x L (Xw m);have d:Rel ⟨w,Z,Keep,Own M Z,[]⟩ ⟨qG 0 args,M,nk,fn.ntmps,M.length⟩ Z _ w:=⟨d.size,d.defers,d.regs,d.mem,λk N=>x k (XC z N),d.stp,d.keep,d.low⟩;refine Code.wp_mono (λe y w' g=>?_) (kR hT Q c d h)
 have o:∀O Z1,(∃O',Sub O O'/\O'.M=M'/\zaw O' I fn.results.toList λs=>LE s r)->Rel ⟨w,Z,Keep,Own M Z,[]⟩ O Z1 y w'->y.defers=[]/\∃v,(results fn y.tmps).run P w'=.ok v w'/\∃F Z',Ending.returned v=.returned F/\Stp (Own M Z) (Own M' Z') Z Z' w w'/\
   zI Keep M' Z' w'/\G (λb=>Keep b∨Own M' Z' b) (Own M' Z') Z' w' r F:=by
  clear g
  rintro O0 S ⟨O,u,rfl,g⟩ C
  obtain⟨Z1,l⟩:=u _ _ _ _ C;obtain⟨s,m,K⟩:=jj hT g;obtain⟨v,H,J⟩:=K l;exact⟨l.defers,v,H,v,Z1,rfl,l.stp,l.mem,m _ _ _ _ _ J⟩
 cases e with
 |normal=>obtain⟨O,Z1,g,l⟩:=g;exact o O Z1 g l
 |ret=>obtain⟨O,Z1,g,l⟩:=g;exact o O Z1 g l
 |exit id=>obtain⟨O,Z1,g,l⟩:=g;exact g.elim
 |_=>exact g.elim
def zCT(L:LP):LP->Prop
 |[]=>True
 |(t,s)::r=>kw L t=some s/\zCT L r
def zoZ{L:LP}:∀{L':LP},zCT L L'->∀t s,kw L' t=some s->kw L t=some s
 |(g,s')::r,⟨b,d⟩,t,s,h=>by
  rw[zV]at h
  split at h
  .rename_i e;rw[←e,b];exact h
  exact zoZ d t s h
variable{O:St}
def zCU{L':LP}(h:zCT O.L L'):Sub O ⟨L',O.M,O.nk,O.nt,O.n0⟩:=λ_ Z _ _ b=>
 ⟨Z,b.size,b.defers,λt s d=>b.regs t s (zoZ h t s d),b.mem,b.fresh,b.stp,b.keep,b.low⟩
def zw3(t k:Nat){T:TypeId}{z:LR}(W:kw O.L t=some (.loc k 0))(F:(k,.box T z)∈O.M)(Y:∀c∈z,∃v,c=.val v):
  Sub O ⟨(t,.dptr z)::O.L,k9 O.M k,O.nk,O.nt,O.n0⟩:=λE Z a w g=>by
 obtain⟨y,X⟩:=g.mem.let_go (M1:=k9 O.M k) (λx hx=>qn x hx) (qR g.mem.keys);have own:∀b,Own (k9 O.M k) Z b->Own O.M Z b:=λb ⟨k,m,v,C,D,J⟩=>⟨k,m,v,qn _ C,D,J⟩
 refine⟨Z,g.size,g.defers,λG s H=>?_,X,g.fresh,g.stp.trans y,g.keep,g.low⟩;have h:kw ((t,SV.dptr z)::O.L) G=some s:=H;clear H;rw[zV]at h
 split at h
 .rename_i e;subst e;obtain rfl:=Xl h;obtain⟨N,Q⟩:=g.regs t _ W;refine⟨N,?_⟩;obtain⟨b,o,e⟩:=Q.loc_inv;obtain⟨b',vs,C,D,J,R,S⟩:=g.mem.rel k _ F;rw[o]at C;cases C
  have u:=g.mem.old b ⟨k,_,_,F,o,rfl⟩;rw[e];refine .d _ _ (.dptr _ b 0 (λj=>(vs[j]?).getD undef) u.1 (λh=>?_) (λj hj=>?_) (λj s y=>?_))
  .rcases h with h|⟨k',m',v',K,U,V⟩
   .exact u.2 h
   exact g.mem.apart k _ k' m' _ v' b F (qn _ K) (λe=>vA g.mem.keys _ K e.symm) o U rfl V
  .have l:j<vs.length:=by omega
   rw[Kb,zcq D];simp only[Xb l,KU];exact⟨tV,R _ (X5 l)⟩
  obtain⟨v,rfl⟩:=Y s (Xf y);have l:j<vs.length:=by have:=(Xd.1 y).1;omega
  have:=S j _ _ y (Xb l);rw[Xb l,KU,this.val_inv];exact .val v
 exact⟨(g.regs G s h).1,(g.regs G s h).2.mono (Xj _) (λb _ u=>⟨λh=>u (h.imp id (own b)),rfl⟩) (λb _ u=>⟨λh=>u (own b h),rfl⟩) λ_ _ h=>h⟩
def zCV(a b:Rc):CX 58 [wr a,wr b] (pr (a.within b)):=by
 exact zc func58<|wd<|wg (zqm a b)<|wg (zfy a)<|wh<|zC zF7
def qrt(a:Rc):List Rc:=[⟨a.x0,a.y0,a.x0+(a.x1-a.x0)/2,a.y0+(a.y1-a.y0)/2⟩,⟨a.x0+(a.x1-a.x0)/2,a.y0,a.x1,a.y0+(a.y1-a.y0)/2⟩,
 ⟨a.x0,a.y0+(a.y1-a.y0)/2,a.x0+(a.x1-a.x0)/2,a.y1⟩,⟨a.x0+(a.x1-a.x0)/2,a.y0+(a.y1-a.y0)/2,a.x1,a.y1⟩]
def zu3(a:Rc)(h:1<a.area):CX 57 [wr a] (.sl rcE (qrt a)):=by
 have b:¬a.mt:=λk=>by unfold Rc.area at h;rw[Rc.canon_pos k]at h;exact absurd h dC
 obtain⟨⟨⟨d,e⟩,⟨g,l⟩,⟨c1,m⟩,o,s⟩,t,u⟩:=Rc.notmt b;refine zc func57<|wd<|wa<|Dv.pos ⟨oM,dC,by show _<=(9223372036854775807:Int);omega⟩ ?_;(iterate 2 refine wa ?_);refine Dv.pos ⟨oM,dC,by show _<=(9223372036854775807:Int);omega⟩<|wa<|wh<|⟨Rc,rcE,qrt a,rfl,wb0 ?_⟩;exact z6 rfl
def zgJ(t:Qt)(f:Nat->Nat):(mdQ t f).length=t.w+1:=by
 have:=Xg List.length (zh2 t f)
 rwa [Xv,Xv,Kk]at this
variable{a:Rc}{es:LV}{p:Qt}{q:Qt}{r:Qt}{j:Nat}
def zFp{s:Qt}(g:j<4)(t:(Qt.node a es p q r s).w<500):Inj ((Qt.node a es p q r s).kid j) (shQ id (3+j) ((Qt.node a es p q r s).base j))/\
  ∀y∈mdQ ((Qt.node a es p q r s).kid j) (shQ id (3+j) ((Qt.node a es p q r s).base j)),za0 (mdQ (.node a es p q r s) id) 513 y.1=some y.2:=by
 obtain⟨l,m,o⟩:=zdA a es p q r s j g;refine⟨λx y k d h=>?_,λy d=>?_⟩
 .cases x <;> cases y <;> simp only[shQ,id]at h <;> omega
 obtain⟨x,k,e⟩:=zbR d
 have b:y.1<513:=by
  rw[e]
  cases x <;> simp only[shQ,id] <;> omega
 unfold za0;rw[zdy b];exact ze6 (zh3 (zqv _)) (vU.2 (.inr (.inr (.inr ⟨j,g,d⟩))))
def divK(a:Rc)(es:LV):Nat->SV
 |0=>.val (.slice none 0 0)
 |_+1=>.own 2
def divM(a:Rc)(es:LV)(j:Nat):LT:=(0,.box 81 (rcE a++[.own 1,divK a es j]))::(1,.arr 3 zN 1 es)::(match j with
 |0=>[]
 |j+1=>(2,.garr 36 1 ((List.range (j+1)).map λx=>[.loc (3+x) 0]))::(List.range (j+1)).map λx=>(3+x,.box 81 (rcE ((qrt a).getD x qj)++[.val (.slice none 0 0),.val (.slice none 0 0)])))
def zCW(t:Qt)(i:Int)(y:Nat×Mem):Prop:=y=(0,.box 81 (rcE t.area++[.own 514,t.kidR id]))∨y=(514,.arr 3 zN 1 (t.ents++[i]))∨(y∈mdQ t id/\y.1≠0/\y.1≠1)
def zCX(t:Qt)(C:t.w<500)(i d:Int)(b:Rc)(M':LT)(m:t.ents.length<=1000)(h:¬d<6∨¬1<t.area.area)(g:M'.Pairwise λa b=>a.1≠b.1)(hA:∀y∈M',zCW t i y):
  CG0 28 [.loc 0 0,i64 i,wr b,i64 d] (mdQ t id) (.tup []) M':=by
 obtain⟨a,es⟩|⟨a,es,p,q,r,s⟩:=t
 all_goals
  have m:es.length<=1000:=m;refine zeT 512 tok mix (by rw[zgJ];omega) func28 rfl rfl rfl ?_;rw[zgJ];refine⟨λc1=>?_,λc1=>?_⟩;refine wg (zmp a)<|⟨λl=>absurd h (λk=>k.elim (λk=>k c1) λk=>k l),λl=>?_⟩
  all_goals
   refine⟨Int,zN,[i],rfl,wb3 ?_⟩;refine⟨[i],rfl,Ob.mk ⟨by show((es.length:Int)+1)*8<=_;omega,by rw[X2];omega,dC,λx v=>by rw[Xt.1 v];rfl⟩ ?_⟩;refine⟨_,zqw (λy z=>?_) g,rfl,.refl⟩
   rcases hA y z with rfl|rfl|⟨e,o,u⟩
   .first|exact .head _|exact .tail _ (.head _)|exact .tail _ (.tail _ (.head _))|exact .tail _ (.tail _ (.tail _ (.head _)))
   .first|exact .head _|exact .tail _ (.head _)|exact .tail _ (.tail _ (.head _))|exact .tail _ (.tail _ (.tail _ (.head _)))
   rcases XA.1 e with rfl|e
   .exact absurd rfl o
   rcases XA.1 e with rfl|e
   .exact absurd rfl u
   first|exact .tail _ (.tail _ e)|exact .tail _ (.tail _ (.tail _ e))|exact .tail _ (.tail _ (.tail _ (.tail _ e)))
def ztp(t:Qt){s:Qt}(hU:t.cut=.node a es p q r s)(hm:(Qt.node a es p q r s).w<500)(i d:Int)(b:Rc)(M':LT)(hl:es.length<=1000)(K:0<=d/\d<6)(l:1<a.area)(z:M'.Pairwise λa b=>a.1≠b.1)(hA:(∀j,j<4->¬b.within ((Qt.node a es p q r s).kid j).area)->∀y∈M',zCW (Qt.node a es p q r s) i y)(hC:∀j,j<4->b.within ((Qt.node a es p q r s).kid j).area->(∀k,k<j->¬b.within ((Qt.node a es p q r s).kid k).area)->∃E D N,(∀x,x<=E.w->D x<((Qt.node a es p q r s).kid j).w+1+N)/\
   CG0 28 [.loc 0 0,i64 i,wr b,i64 (d+1)] (mdQ ((Qt.node a es p q r s).kid j) id) (.tup []) (mdQ E D)/\∀y∈M',y∈mdQ E (λx=>rn (lab ((Qt.node a es p q r s).kid j) (shQ id (3+j) ((Qt.node a es p q r s).base j))) 513 (D x))++
    jJ (mdQ (.node a es p q r s) id) (lab ((Qt.node a es p q r s).kid j) (shQ id (3+j) ((Qt.node a es p q r s).base j)))):
  CG0 28 [.loc 0 0,i64 i,wr b,i64 d] (mdQ t id) (.tup []) M':=by
 have C:∀c∈rcE b,∃v,c=.val v:=λc J=>by
  simp only[rcE,XA,XW,or_false]at J
  rcases J with rfl|rfl|rfl|rfl <;> exact⟨_,rfl⟩
 have kk:∀j,j<4->Inj ((Qt.node a es p q r s).kid j) (shQ id (3+j) ((Qt.node a es p q r s).base j))/\∀y∈mdQ ((Qt.node a es p q r s).kid j) (shQ id (3+j) ((Qt.node a es p q r s).base j)),za0 (mdQ (Qt.node a es p q r s) id) 513 y.1=some y.2:=λj m=>zFp m hm
 obtain⟨U,hUU⟩:∃U,U=(Qt.node a es p q r s):=⟨_,rfl⟩;rw[←hUU]at hA hC kk
 obtain⟨L,F⟩|⟨L,F,p',q',r',s'⟩:=t
 cases hU
 refine zeT 512 tok mix (by rw[zgJ];show 1+1<=512;decide) func28 rfl rfl rfl<|Br.mk (λ_=>?_) (λk=>absurd K.2 k);refine wg (zmp a)<|⟨λ_=>?_,λk=>absurd l k⟩;refine we<|wg (zu3 a l) λH=>?_;refine⟨Nat,λj=>⟨[(34,i64 j),(33,i64 4),(32,.sl rcE (qrt a)),(6,.dptr (rcE b)),(3,i64 d),(1,i64 i),(0,.loc 0 0)],divM a es j,513,83,2⟩,λj=>j<=4,λj=>4-j,0,Xh _,?_,?_⟩
 .exact(zw3 6 512 (T:=30) rfl (X0 ..) C).trans (zCU ⟨rfl,rfl,rfl,rfl,rfl,rfl,rfl,tV⟩)
 rintro j m
 have m:j<=4:=m;refine⟨λg:(j:Int)<4=>?_,λg=>?_⟩
 .have hq:0<=(j:Int)/\(j:Int)<((qrt a).length:Int):=by show 0<=(j:Int)/\(j:Int)<(4:Nat);omega
  obtain⟨k,o⟩:∃k,j+1=k:=⟨_,rfl⟩;obtain rfl|rfl|rfl|rfl:j=0∨j=1∨j=2∨j=3:=oM
  all_goals
   refine Ob.mk hq λx e=>?_
   cases e
   refine wd<|⟨[[.loc 514 0]],rfl,wb8 ?_⟩;refine Ob.mk ⟨dC,dC,dC⟩<|wh<|Ar.fit dC<|⟨k,oM,?_,oN⟩;subst o
   first
   |exact zt [0,1,516,514] ⟨rfl,rfl,⟨_,rfl,rfl,λi x e=>by rcases i with _|_|_|_|i <;> first|(cases e;exact⟨_,rfl,rfl⟩)|cases e⟩,rfl,tV⟩
   |exact zt [0,1,516,3,514] ⟨rfl,rfl,⟨_,rfl,rfl,λi x e=>by rcases i with _|_|_|_|i <;> first|(cases e;exact⟨_,rfl,rfl⟩)|cases e⟩,rfl,rfl,tV⟩
   |exact zt [0,1,516,3,4,514] ⟨rfl,rfl,⟨_,rfl,rfl,λi x e=>by rcases i with _|_|_|_|i <;> first|(cases e;exact⟨_,rfl,rfl⟩)|cases e⟩,rfl,rfl,rfl,tV⟩
   |exact zt [0,1,516,3,4,5,514] ⟨rfl,rfl,⟨_,rfl,rfl,λi x e=>by rcases i with _|_|_|_|i <;> first|(cases e;exact⟨_,rfl,rfl⟩)|cases e⟩,rfl,rfl,rfl,rfl,tV⟩
 obtain rfl:j=4:=by have g:¬(j:Int)<4:=g;omega
 intro hl3;refine⟨Nat,λj=>⟨[(56,i64 j),(55,i64 4),(54,.own 2),(6,.dptr (rcE b)),(3,i64 d),(1,i64 i),(0,.loc 0 0)],mdQ U id,513,83,2⟩,λj=>j<=4/\∀k,k<j->¬b.within (U.kid k).area,λj=>4-j,0,⟨Xh _,λk h=>by omega⟩,?_,?_⟩
 .subst hUU;exact zdI [(0,some 0),(1,some 1),(2,some 2),(3,some 3),(4,some 4),(5,some 5),(6,some 6),(7,none),(8,none),(9,none),(10,none)] ⟨rfl,rfl,⟨_,rfl,rfl,λi x e=>by rcases i with _|_|_|_|i <;> first|(cases e;exact⟨_,rfl,rfl⟩)|cases e⟩,rfl,rfl,rfl,rfl,rfl,rfl,rfl,rfl,tV⟩
 rotate_left
 cases hU
 refine zeT 512 tok mix (by rw[zgJ];omega) func28 rfl rfl rfl ?_;rw[zgJ];refine⟨λ_=>?_,λk=>absurd K.2 k⟩;refine wg (zmp a)<|⟨λ_=>?_,λk=>absurd l k⟩;intro hl1;refine⟨λQ=>absurd Q dC,λ_=>?_⟩;intro H;refine⟨Nat,λj=>⟨[(56,i64 j),(55,i64 4),(54,.own 2),(6,.dptr (rcE b)),(3,i64 d),(1,i64 i),(0,.loc 0 0)],mdQ U id,513,83,(Qt.node a es p q r s).w+1⟩,λj=>j<=4/\∀k,k<j->¬b.within (U.kid k).area,λj=>4-j,0,⟨Xh _,λk h=>by omega⟩,?_,?_⟩
 .subst hUU;exact(zw3 6 512 (T:=30) rfl (X0 ..) C).trans (zCU ⟨rfl,rfl,rfl,rfl,rfl,rfl,rfl,tV⟩)
 all_goals
  rintro j ⟨m,G⟩
  refine⟨λg:(j:Int)<4=>?_,λg:¬(j:Int)<4=>?_⟩
  .have u:j<4:=oM;obtain⟨k1,k2⟩:=kk j u;have go:=hC j u;clear hC;have hw:=zCV b (U.kid j).area
   have ha:∀Y,LEs [.loc (3+j) 0,i64 i,wr b,i64 (d+1)] (vr.rens (lab (U.kid j) (shQ id (3+j) (U.base j))) Y [.loc 0 0,i64 i,wr b,i64 (d+1)]):=λY=>by
    show LEs _ [.loc (rn _ Y 0) 0,i64 i,wr b,i64 (d+1)];rw[vE (zdz (Xh _))];exact .refl
   clear kk hA;subst hUU;obtain⟨k,o⟩:∃k,j+1=k:=⟨_,rfl⟩;obtain rfl|rfl|rfl|rfl:j=0∨j=1∨j=2∨j=3:=oM
   all_goals
    refine wb1<|wb1 λx e=>?_
    cases e
    refine wd<|wg hw<|wh<|⟨λc=>?_,λc=>?_⟩
    .obtain⟨E,D,N,R,S,V⟩:=go c G;exact wa<|zoO k1 k2 R S (ha _) rfl<|⟨_,zqw V z,rfl,.refl⟩
    refine Ar.fit dC<|⟨k,⟨oM,λi hi=>?_⟩,?_,oN⟩
    .subst o
     rcases Jk.1 hi with h|h
     .exact G i h
     rw[h];exact c
    subst o;exact zCU ⟨rfl,rfl,rfl,rfl,rfl,rfl,rfl,tV⟩
  have hA:=hA λk o=>G k oM
  clear kk hC;subst hUU;refine⟨Int,zN,[i],rfl,wb3 ?_⟩;refine⟨[i],rfl,Ob.mk ⟨by show((es.length:Int)+1)*8<=_;omega,by rw[X2];omega,dC,λx e=>by rw[Xt.1 e];rfl⟩ ?_⟩;refine⟨_,zqw (λy hy=>?_) z,rfl,.refl⟩
  rcases hA y hy with rfl|rfl|⟨l,W,X⟩
  .first|exact .head _|exact .tail _ (.head _)|exact .tail _ (.tail _ (.head _))|exact .tail _ (.tail _ (.tail _ (.head _)))
  .first|exact .head _|exact .tail _ (.head _)|exact .tail _ (.tail _ (.head _))|exact .tail _ (.tail _ (.tail _ (.head _)))
  rcases XA.1 l with rfl|l
  .exact absurd rfl W
  rcases XA.1 l with rfl|l
  .exact absurd rfl X
  first|exact .tail _ (.tail _ l)|exact .tail _ (.tail _ (.tail _ l))|exact .tail _ (.tail _ (.tail _ (.tail _ l)))
def zjm(x:Nat):Nat:=if x=1 then 514 else x
def zw4{x:Nat}(h:x≠1):zjm x=x:=Xc h
def zjn(t:Qt)(i:Int):(t.push i).w=t.w:=by cases t <;> rfl
def ztq{t:Qt}(h:t.w<500):Inj t zjm:=λx y b d e=>by
 unfold zjm at e
 split at e <;> split at e <;> omega
variable{i:Int}
def ztr{t:Qt}(h:t.w<500):∀y∈mdQ (t.push i) zjm,zCW t i y:=by
 intro y b
 obtain⟨a,es⟩|⟨a,es,p,q,r,s⟩:=t
 .rcases XA.1 b with rfl|b
  .exact .inl rfl
  rw[Xt.1 b];exact .inr (.inl rfl)
 have bf:=zdA a es p q r s
 rcases vU.1 b with rfl|rfl|rfl|⟨k,d,b⟩
 .exact .inl rfl
 .exact .inr (.inl rfl)
 .exact .inr (.inr ⟨vU.2 (.inr (.inr (.inl rfl))),by show zjm 2≠0;decide,by show zjm 2≠1;decide⟩)
 have b:y∈mdQ ((Qt.node a es p q r s).kid k) (shQ zjm (3+k) ((Qt.node a es p q r s).base k)):=by
  obtain rfl|rfl|rfl|rfl:k=0∨k=1∨k=2∨k=3:=oM
  all_goals exact b
 obtain⟨m,o,u⟩:=bf k d;rw[uU _ (g:=shQ id (3+k) ((Qt.node a es p q r s).base k)) λx l=>?_]at b
 .obtain⟨x,l,e⟩:=zbR b;refine .inr (.inr ⟨vU.2 (.inr (.inr (.inr ⟨k,d,b⟩))),?_,?_⟩ ) <;> rw[e] <;> cases x <;> simp only[shQ,id] <;> omega
 cases x with
 |zero=>exact zw4 oM
 |succ x=>exact zw4 oM
def zFq{s:Qt}(b:j<4):((Qt.node a es p q r s).kid j).all.length<=(Qt.node a es p q r s).all.length:=by
 obtain rfl|rfl|rfl|rfl:j=0∨j=1∨j=2∨j=3:=oM
 all_goals simp only[Qt.kid,Qt.all,Xr];omega
def zts(t:Qt):t.ents.length<=t.all.length:=by
 cases t with
 |leaf a es=>exact Xj _
 |node a es p q r s=>simp only[Qt.ents,Qt.all,Xr];omega
def zGj(t:Qt):t.cut.w<=t.w+9:=by
 cases t with
 |leaf a es=>exact Xj _
 |node a es p q r s=>exact Q8 _ _
def zo0(P:LI)[DecidablePred P]:∀n,(∃j,j<n/\P j/\∀k,k<j->¬P k)∨∀j,j<n->¬P j
 |0=>.inr λj h=>oM
 |n+1=>by
  obtain⟨j,e,b⟩|h:=zo0 P n
  .exact .inl ⟨j,oM,b⟩
  by_cases c:P n
  .exact .inl ⟨n,oM,c,h⟩
  refine .inr λj d=>?_
  rcases Jk.1 d with k|k
  .exact h j k
  rw[k];exact c
def zu4{t:Qt}{s:Qt}{b:Rc}{n:Nat}(d:¬t.area.area<=1)(e:t.cut=.node a es p q r s):t.ins i b (n+1)=if b.within p.area then .node a es (p.ins i b n) q r s else if b.within q.area then .node a es p (q.ins i b n) r s
  else if b.within r.area then .node a es p q (r.ins i b n) s else if b.within s.area then .node a es p q r (s.ins i b n) else .node a (es++[i]) p q r s:=by
 rw[Qt.ins,Xc d,e]
def zH8(i:Int)(b:Rc):∀(n:Nat) (t:Qt),n<=6->t.w+9*n<490->t.all.length<=1000->∃F N,F 0=0/\Inj (t.ins i b n) F/\(∀x,x<=(t.ins i b n).w->F x<t.w+1+N)/\
  CG0 28 [.loc 0 0,i64 i,wr b,i64 (6-(n:Int))] (mdQ t id) (.tup []) (mdQ (t.ins i b n) F):=by
 have push:∀(t:Qt) (n:Nat),t.w<490->t.all.length<=1000->(¬(6-(n:Int))<6∨¬1<t.area.area)->∃F N,F 0=0/\Inj (t.push i) F/\(∀x,x<=(t.push i).w->F x<t.w+1+N)/\
   CG0 28 [.loc 0 0,i64 i,wr b,i64 (6-(n:Int))] (mdQ t id) (.tup []) (mdQ (t.push i) F):=λt n E k h=>by
  have hi:Inj (t.push i) zjm:=ztq (by rw[zjn];omega);refine⟨zjm,514,rfl,hi,λx u=>?_,zCX t oM i _ b _ (XC (zts t) k) h (zh3 hi) (ztr oM)⟩;rw[zjn]at u;unfold zjm
  split <;> omega
 intro n
 induction n with
 |zero=>exact λt _ E k=>push t 0 oM k (.inl oM)
 |succ n L=>
  intro t T E k
  by_cases z:t.area.area<=1
  .rw[show t.ins i b (n+1)=t.push i from Xe z];exact push t (n+1) oM k (.inr oM)
  obtain⟨p,q,r,s,e,G⟩:=t.cut_is;have D:=zGj t;have C:(Qt.node t.area t.ents p q r s).all.length<=1000:=by rw[←e,G];exact k
  rw[e]at D;have o:=XC (zts t) k
  rcases zo0 (λj=>b.within ((Qt.node t.area t.ents p q r s).kid j).area) 4 with⟨j,y,l,d⟩|none
  .have eins:t.ins i b (n+1)=(Qt.node t.area t.ents p q r s).put j (((Qt.node t.area t.ents p q r s).kid j).ins i b n):=by
    rw[zu4 z e];obtain rfl|rfl|rfl|rfl:j=0∨j=1∨j=2∨j=3:=oM
    .exact Xe l
    .exact(Xc (d 0 oM)).trans (Xe l)
    .exact(Xc (d 0 oM)).trans ((Xc (d 1 oM)).trans (Xe l))
    exact(Xc (d 0 oM)).trans ((Xc (d 1 oM)).trans ((Xc (d 2 oM)).trans (Xe l)))
   obtain⟨Q,R,S⟩:=zdA t.area t.ents p q r s j y;obtain⟨H,N,J,inj,hN,K⟩:=L ((Qt.node t.area t.ents p q r s).kid j) oM oM (XC (zFq y) C);obtain⟨F,F0,_,Finj,Fb,Fm⟩:=zyY (Y:=513) rfl y rfl rfl rfl oM J inj hN;rw[eins];refine⟨F,513+N,F0,Finj,λx u=>by have:=Fb x u;omega,ztp t e oM i _ b _ o ⟨oM,oM⟩ oM (zh3 Finj) (λh=>absurd l (h j y)) λv m g hlt'=>?_⟩
   obtain rfl:v=j:=by
    rcases Qx v j with c|c|c
    .exact absurd g (d v c)
    .exact c
    exact absurd l (hlt' j c)
   refine⟨_,H,N,hN,?_,Fm⟩;rw[show(6:Int)-((n+1:Nat):Int)+1=6-(n:Int) by omega];exact K
  have eins:t.ins i b (n+1)=(Qt.node t.area t.ents p q r s).push i:=by
   rw[zu4 z e];exact(Xc (none 0 oM)).trans ((Xc (none 1 oM)).trans ((Xc (none 2 oM)).trans (Xc (none 3 oM))))
  have hi:Inj ((Qt.node t.area t.ents p q r s).push i) zjm:=ztq (by rw[zjn];omega);rw[eins];refine⟨zjm,514,rfl,hi,λx u=>?_,ztp t e oM i _ b _ o ⟨oM,oM⟩ oM (zh3 hi) (λ_=>ztr oM) λv m g _=>absurd g (none v m)⟩;rw[zjn]at u;unfold zjm
  split <;> omega
def qtE:Qt->LR
 |.leaf a es=>rcE a++[.sl zN es,.val (.slice none 0 0)]
 |.node a es p q r s=>rcE a++[.sl zN es,.sl (λj:Nat=>[.dptr (match j with
  |0=>qtE p
  |1=>qtE q
  |2=>qtE r
  |_=>qtE s)]) (List.range 4)]
end
section
variable{Keep:LI}{M:LT}{Z:zh}{w:World}
def zH9(L:zI Keep M Z w){k:Nat}{T:TypeId}{sz:Nat}{xs:LN}(H:(k,Mem.garr T sz xs)∈M){enc:Nat->LR}(J:∀i x,xs[i]?=some x->(enc i).length=sz)(hd:∀(i j:Nat) x s s' u,xs[i]?=some x->x[j]?=some s->(enc i)[j]?=some s'->G (λb=>Keep b∨Own M Z b) (Own M Z) Z w s u->D Keep w s' u){v:Value}(Q:Z k=some v):D Keep w (.sl enc (List.range xs.length)) v:=by
 obtain⟨v',cells,C,h,K,t,m,d⟩:=L.rel k _ H;rw[Q]at C;cases C
 obtain⟨rfl,U⟩|⟨g,cap,R,rfl,_,l,F,Y,hcs,htake⟩:=h.2
 .have:xs=[]:=Xq U;subst this;exact .nil enc _
 have X:=h.1
 have W:∀i j,i<xs.length->j<sz->∃u,cells[i*sz+j]?=some u:=λi j hi o=>by
  have V:i*sz+sz<=xs.length*sz:=by
   have:=Xy sz (X1 hi);rw[Ka]at this;exact this
  exact⟨_,Xb (show i*sz+j<cells.length by omega)⟩
 have E:=L.old g ⟨k,_,_,H,Q,rfl⟩;have:=D.sl (S:=Keep) (w:=w) enc (List.range xs.length) sz g 0 cap (λi j=>(cells[i*sz+j]?).getD undef) E.1 E.2 (by rw[Kk];omega) (by rw[Kk];exact F) (λx z=>?_) (λi j hi o=>?_) (λi j x s z N=>?_)
 .rwa [Kk]at this
 .exact J x _ (Xb (XV.1 z))
 .rw[Kk]at hi;obtain⟨u,y⟩:=W i j hi o;rw[y];refine⟨?_,t u (Xf y)⟩;have:=zbq l htake y
  simpa[Kb] using this
 have hi:i<xs.length:=by
  have:=(Xd.1 z).1
  rwa [Kk]at this
 rw[KV hi]at z;obtain rfl:=Xl z;have e:=Xb hi
 have o:j<xs[i].length:=by
  have V:=J i _ e;have h2:=(Xd.1 N).1;have h3:=m _ (X5 hi);omega
 obtain⟨u,y,E⟩:=d i j _ _ e (Xb o);rw[y];exact hd i j _ _ s u e (Xb o) N E
def zCY(v:zI Keep M Z w){k b:Nat}{T:TypeId}{h e:LR}(t:(k,Mem.box T h)∈M)(g:Z k=some (.pointer (some ⟨b,0,none⟩)))(J:e.length=h.length)(E:∀(j:Nat) s s' u,h[j]?=some s->e[j]?=some s'->G (λb=>Keep b∨Own M Z b) (Own M Z) Z w s u->D Keep w s' u):D Keep w (.dptr e) (.pointer (some ⟨b,0,none⟩)):=by
 obtain⟨F,vs,m,y,H,z,C⟩:=v.rel k _ t;rw[g]at m;cases m
 have o:=v.old b ⟨k,_,_,t,g,rfl⟩;refine .dptr _ b 0 (λj=>(vs[j]?).getD undef) o.1 o.2 (λj l=>?_) (λj s x=>?_)
 .have d:j<vs.length:=by omega
  rw[Kb,zcq y];simp only[Xb d,KU];exact⟨tV,z _ (X5 d)⟩
 have l:j<h.length:=by have:=(Xd.1 x).1;omega
 have d:j<vs.length:=oM;rw[Xb d,KU];exact E j _ s _ (Xb l) x (C j _ _ (Xb l) (Xb d))
def zIa(E:zI Keep M Z w):∀(t:Qt) (F:Nat->Nat),(∀y∈mdQ t F,y∈M)->∀b,Z (F 0)=some (.pointer (some ⟨b,0,none⟩))->D Keep w (.dptr (qtE t)) (.pointer (some ⟨b,0,none⟩)):=by
 have zm4:∀{T sz} {es:LV} {k:Nat},(k,Mem.arr T zN sz es)∈M->∀u,G (λb=>Keep b∨Own M Z b) (Own M Z) Z w (.own k) u->D Keep w (.sl zN es) u:=λ{T sz es k} Q u d=>
  zgT E Q (λb L=>.inl L) (λv b V L N=>(E.old b ⟨k,_,v,Q,V,L⟩).2 N) d.own_inv.1
 intro t
 induction t with
 |leaf a es=>
  intro F hF b C;refine zCY E (hF _ (X0 ..)) C rfl λj s s' u H e d=>?_
  rcases j with _|_|_|_|_|_|j
  all_goals first
   |(cases H;cases e;rw[d.val_inv];exact .val _)
   |(cases H;cases e;exact zm4 (hF _ (XR _ (X0 ..))) u d)
   |cases H
 |node a es p q r s R S U H=>
  intro F hF b C;have mem:∀y,_->y∈M:=λy h=>hF y (zmH.2 h)
  refine zCY E (hF _ (X0 ..)) C rfl λj s0 s' u g e d=>?_
  rcases j with _|_|_|_|_|_|j
  all_goals first
   |(cases g;cases e;rw[d.val_inv];exact .val _)
   |(cases g;cases e;exact zm4 (mem _ (.inr (.inl rfl))) u d)
   |skip
  .cases g
   cases e
   refine zH9 E (mem _ (.inr (.inr (.inl rfl)))) (λi x _=>rfl) (λi j x s s' u K l J d=>?_) d.own_inv.1
   obtain rfl:j=0:=by
    have:=(Xd.1 J).1;have:j<1:=this;omega
   obtain rfl:=Xl J
   rcases i with _|_|_|_|i
   .cases K;cases l
    obtain⟨m,o,rfl⟩:=d.loc_inv;exact R _ (λy z=>mem y (.inr (.inr (.inr (.inl z))))) m o
   .cases K;cases l
    obtain⟨m,o,rfl⟩:=d.loc_inv;exact S _ (λy z=>mem y (.inr (.inr (.inr (.inr (.inl z)))))) m o
   .cases K;cases l
    obtain⟨m,o,rfl⟩:=d.loc_inv;exact U _ (λy z=>mem y (.inr (.inr (.inr (.inr (.inr (.inl z))))))) m o
   .cases K;cases l
    obtain⟨m,o,rfl⟩:=d.loc_inv;exact H _ (λy z=>mem y (.inr (.inr (.inr (.inr (.inr (.inr z))))))) m o
   cases K
  cases g
end
def zCZ{s:Sc}:bxN s 0=List.replicate s.ns.length qj:=by
 unfold bxN;rw[List.eq_replicate_iff];refine⟨by rw[Xv,Kk],λb d=>?_⟩;obtain⟨k,_,rfl⟩:=XK.1 d;exact Xc (Nat.not_lt_zero _)
def endW(I:LS)(rs:List ResultVar)(r:SV)(e:Ex)(O:St):Prop:=
 match e with
 |.exit _=>False
 |_=>zaw O I rs λs=>∀(Keep:LI) (Z:zh) (w:World) (v:Value),zI Keep O.M Z w->G (λb=>Keep b∨Own O.M Z b) (Own O.M Z) Z w s v->G (λb=>Keep b∨Own [] Z b) (Own [] Z) Z w r v
def znl(ks:LC)(n:Nat)(Z:zh):zh:=λk=>if k<n then Z (rn ks 0 k) else none
structure zjU (ks:LC) (n:Nat) (M M':LT):Prop where
 inj:∀x y,x<n->y<n->rn ks 0 x=rn ks 0 y->x=y
 pw:M'.Pairwise λa b=>a.1≠b.1
 mem:∀y∈M',y.1<n/\zqM n y.2/\(rn ks 0 y.1,zig ks 0 y.2)∈M
section
variable{ks:LC}{n:Nat}{M M':LT}{Keep:LI}{Z:zh}{w:World}
def zqE{k:Nat}{v:Value}(b:k<n)(h:Z (rn ks 0 k)=some v):znl ks n Z k=some v:=(Xe b).trans h
def zqF{k:Nat}{v:Value}(h:znl ks n Z k=some v):k<n/\Z (rn ks 0 k)=some v:=by
 unfold znl at h
 split at h
 .exact⟨‹_›,h⟩
 cases h
def zjU.own(h:zjU ks n M M'){b:Nat}(l:Own M' (znl ks n Z) b):Own M Z b:=by
 obtain⟨k,m,v,d,e,g⟩:=l;exact⟨_,_,v,(h.mem _ d).2.2,(zqF e).2,g⟩
def zjU.ok(h:zjU ks n M M')(g:zI Keep M Z w):zI Keep M' (znl ks n Z) w:=by
 have E:Stp (Own M Z) (Own M' (znl ks n Z)) (znl ks n Z) (znl ks n Z) w w:=⟨rfl,rfl,.refl _,Xj _,λ_ _ _=>rfl,λb d=>.inl (h.own d),λ_ _ h=>h⟩;refine⟨λk m t=>?_,h.pw,λk m G J v H b l o u s C D=>?_,λb d=>g.old b (h.own d),g.kp,g.glO λb d=>h.own d⟩
 .obtain⟨l,o,s⟩:=h.mem _ t;exact(znA (λ_ h=>h) (λk v t F=>zqE t F) l o (g.rel _ _ s)).keep E rfl (λ_ _ _ _=>rfl)
 obtain⟨c1,y⟩:=zqF s;obtain⟨x,z⟩:=zqF C;exact g.apart _ _ _ _ v H b (h.mem _ l).2.2 (h.mem _ o).2.2 (λe=>u (h.inj k G c1 x e)) y z D
end
def zC0{O:St}{ks:LC}{L':LP}{M':LT}{n nk:Nat}(u:O.n0=0)(C:n<=nk)(h:zjU ks n O.M M')(hL:∀t s,kw L' t=some s->uf n s=true/\kw O.L t=some (vr ks 0 s)):Sub O ⟨L',M',nk,O.nt,O.n0⟩:=λE Z a w d=>by
 refine⟨znl ks n Z,d.size,d.defers,λt s z=>?_,h.ok d.mem,λk l=>?_,?_,d.keep,d.low⟩
 .obtain⟨x,y⟩:=hL t s z;obtain⟨m,o⟩:=d.regs t _ y;exact⟨m,(zg0 (λ_ h=>h) (λk v l D=>zqE l D) s x o).mono (Xj _) (λb _ g=>⟨λk=>g (k.imp id h.own),rfl⟩) (λb _ g=>⟨λk=>g (h.own k),rfl⟩) λ_ _ h=>h⟩
 .exact Xc (by have l:nk<=k:=l;omega)
 have e:=d.stp;exact⟨e.os,e.tape,e.output,e.size,e.block,λb g=>e.own b (h.own g),λk v h=>absurd (d.low k v h) (by rw[u];omega)⟩
def ztt{P:Program}{f:FuncId}{args:LR}{M M' M'':LT}{ks:LC}{n:Nat}(h:kL P f args M (.tup []) M')(m:∀k,k<M.length->rn ks 0 k=k)(E:M.length<=n)(ht:zjU ks n M' M''):
  kL P f args M (.tup []) M'':=by
 refine⟨h.1,λKeep Z w vs C D g y=>(h.2 Keep Z w vs C D g y).mono λ_ w' ⟨v,Z1,e,d,o,l⟩=>?_⟩;obtain⟨us,rfl,t⟩:=l.tup_inv;refine⟨_,znl ks n Z1,e,⟨d.os,d.tape,d.output,d.size,d.block,λb x=>d.own b (ht.own x),λk v u=>?_⟩,ht.ok o,.tup [] us t.1 λj s v z=>by cases z⟩
 rcases Kf k M.length with c|c
 .exact zqE oM (by rw[m k c];exact d.rho k v u)
 rw[g k c]at u;cases u
def qt(s:Sc):Nat->Qt
 |0=>.leaf (arN s s.ns.length) []
 |k+1=>if ((bxN s s.ns.length).getD k qj).mt then qt s k else(qt s k).ins k ((bxN s s.ns.length).getD k qj) 6
def ixT(s:Sc):LR:=scE s++[.sl rcE (bxN s s.ns.length),.dptr (qtE (qt s s.ns.length))]
def put_w(t:Qt)(i:Int)(b:Rc):∀(n:Nat),(t.ins i b n).w<=t.w+9*n:=by
 intro n
 induction n generalizing t with
 |zero=>exact YV (zjn t i)
 |succ n d=>
  by_cases g:t.area.area<=1
  .rw[show t.ins i b (n+1)=t.push i from Xe g,zjn];omega
  obtain⟨p,q,r,s,e,_⟩:=t.cut_is;have h:=zGj t;rw[e]at h;have k:(Qt.node t.area t.ents p q r s).w=6+p.w+q.w+r.w+s.w:=rfl;have l:=d p;have m:=d q;have o:=d r;have u:=d s;rw[zu4 g e]
  repeat' split
  all_goals simp only[Qt.w];omega
def zu5(s:Sc):∀k,(qt s k).w<=1+54*k
 |0=>Xj _
 |k+1=>by
  have b:=zu5 s k;unfold qt
  split
  .omega
  exact XC (put_w _ _ _ 6) oM
def zmU(s:Sc):∀k,(qt s k).all.length<=k
 |0=>Xj _
 |k+1=>by
  have b:=zmU s k;unfold qt
  split
  .omega
  rw[(zdx _ _ _ _).length_eq];exact Nat.succ_le_succ b
def zIb(i:Int)(b:Rc)(n:Nat)(t:Qt)(W:n<=6)(Y:t.w+9*n<490)(U:t.all.length<=1000):∃F N,F 0=0/\Inj (t.ins i b n) F/\(∀x,x<=(t.ins i b n).w->F x<t.w+1+N)/\
  (∀z,t.w+1<=z->z<t.w+1+N->∃x,x<=(t.ins i b n).w/\F x=z)/\
  CG0 28 [.loc 0 0,i64 i,wr b,i64 (6-(n:Int))] (mdQ t id) (.tup []) (mdQ (t.ins i b n) F):=by
 obtain⟨F,N,T,inj,hN,G⟩:=zH8 i b n t W Y U;obtain⟨u,X⟩:∃u,u=t.ins i b n:=⟨_,rfl⟩;rw[←X]at inj hN G ⊢;obtain⟨news,hnews⟩:∃news,news=(List.range (u.w+1)).filter λx=>decide (t.w<F x):=⟨_,rfl⟩
 have d:∀x,x∈news↔x<=u.w/\t.w<F x:=λx=>by
  rw[hnews,QH,XV,decide_eq_true_iff];exact⟨λh=>⟨oM,h.2⟩,λh=>⟨oM,h.2⟩⟩
 have o:news.Nodup:=by rw[hnews];exact List.nodup_range.filter _
 obtain⟨F2,hF2⟩:∃F2:Nat->Nat,F2=λx=>if F x<=t.w then F x else t.w+1+news.idxOf x:=⟨_,rfl⟩
 have old:∀x,F x<=t.w->F2 x=F x:=λx h=>by rw[hF2];exact Xe h
 have new:∀x,¬F x<=t.w->F2 x=t.w+1+news.idxOf x:=λx h=>by rw[hF2];exact Xc h
 obtain⟨ks,v⟩:∃ks,ks=List.range (t.w+1)++news.map F:=⟨_,rfl⟩
 have E:∀k,k<=t.w->rn ks 0 k=k:=λk h=>vE (by
  rw[v,XN (by rw[Kk];omega),KV oM])
 have J:∀j (h:j<news.length),rn ks 0 (t.w+1+j)=F news[j]:=λj h=>vE (by
  rw[v,XG (by rw[Kk];omega),Kk,show t.w+1+j-(t.w+1)=j by omega,XD,Xb h];rfl)
 have ix:∀x,x<=u.w->¬F x<=t.w->∃h:news.idxOf x<news.length,news[news.idxOf x]=x:=λx s C=>by
  have h:=List.idxOf_lt_length_iff.2 ((d x).2 ⟨s,oM⟩);exact⟨h,List.getElem_idxOf h⟩
 have back:∀x,x<=u.w->rn ks 0 (F2 x)=F x:=λx g=>by
  by_cases c:F x<=t.w
  .rw[old x c,E _ c]
  obtain⟨s,C⟩:=ix x g c;rw[new x c,J _ s,C]
 have lt:∀x,x<=u.w->F2 x<t.w+1+news.length:=λx g=>by
  by_cases c:F x<=t.w
  .rw[old x c];omega
  obtain⟨s,C⟩:=ix x g c;rw[new x c];omega
 have inj2:Inj u F2:=λx y g m e=>inj x y g m (by rw[←back x g,←back y m,e])
 have H:F 0<=t.w:=oM;refine⟨F2,news.length,(old 0 H).trans T,inj2,lt,λz s C=>?_,ztt (n:=t.w+1+news.length) G (λk D=>E k (by rw[zgJ]at D;omega)) (by rw[zgJ];omega) ⟨λx y g m e=>?_,zh3 inj2,λy m=>⟨?_,(zeQ u lt y m).1,?_⟩⟩⟩
 .obtain⟨j,rfl⟩:∃j,z=t.w+1+j:=⟨z-(t.w+1),oM⟩;have l:j<news.length:=oM;have V:=(d _).1 (X5 l);exact⟨news[j],V.1,by rw[new _ oM,o.idxOf_getElem j l]⟩
 .have val:∀z,z<t.w+1+news.length->(z<=t.w/\rn ks 0 z=z)∨∃j,∃h:j<news.length,z=t.w+1+j/\rn ks 0 z=F news[j]/\t.w<F news[j]:=λz H=>by
   rcases Kf t.w z with c|c
   .obtain⟨j,rfl⟩:∃j,z=t.w+1+j:=⟨z-(t.w+1),oM⟩;have l:j<news.length:=oM;exact .inr ⟨j,l,rfl,J j l,((d _).1 (X5 l)).2⟩
   exact .inl ⟨c,E z c⟩
  obtain⟨K,L⟩|⟨j,l,K,L,a3⟩:=val x g <;> obtain⟨Q,R⟩|⟨k,D,Q,R,b3⟩:=val y m
  .omega
  .omega
  .omega
  have S:=inj news[j] news[k] ((d _).1 (X5 l)).1 ((d _).1 (X5 D)).1 oM;have e3:j=k:=by rw[←o.idxOf_getElem j l,←o.idxOf_getElem k D,S]
  omega
 .obtain⟨x,g,e⟩:=zbR m;rw[e];exact lt x g
 have e:yA ks 0 (mdQ u F2)=mdQ u F:=by rw[zqu];exact uU u back
 rw[←e];exact zcs m
def jD.less2{S S' Pm Pm':LI}{Z:zh}{w:World}{k:Nat}{m:Mem}(hS:∀b,S' b->S b)(hP:∀b,Pm' b->Pm b)(h:jD S Pm Z w k m):jD S' Pm' Z w k m:=by
 have z:∀{s v},G S' Pm Z w s v->G S' Pm' Z w s v:=λh=>h.mono (Xj _) (λb _ t=>⟨t,rfl⟩) (λb _ t=>⟨λk=>t (hP b k),rfl⟩) λ_ _ h=>h
 replace h:=h.lessS hS
 cases m with
 |box T K=>
  obtain⟨b,vs,d,e,g,l,o⟩:=h;exact⟨b,vs,d,e,g,l,λj s v y H=>z (o j s v y H)⟩
 |arr T enc sz xs=>exact h
 |garr T sz xs=>
  obtain⟨v,cells,d,e,g,l,o,C⟩:=h;refine⟨v,cells,d,e,g,l,o,λi j x s J E=>?_⟩;obtain⟨u,F,D⟩:=C i j x s J E;exact⟨u,F,z D⟩
 |map es=>exact h
structure zdM (M A B:LT):Prop where
 a:∀x∈A,x∈M
 b:∀x∈B,x∈M
 ne:∀x∈A,∀y∈B,x.1≠y.1
 pw:A.Pairwise λa b=>a.1≠b.1
section
variable{M A B:LT}{Keep:LI}{Z:zh}{w:World}
def zdM.ownA(h:zdM M A B){b:Nat}:Own A Z b->Own M Z b:=λ⟨k,m,v,d,e,g⟩=>⟨k,m,v,h.a _ d,e,g⟩
def zdM.ownB(h:zdM M A B){b:Nat}:Own B Z b->Own M Z b:=λ⟨k,m,v,d,e,g⟩=>⟨k,m,v,h.b _ d,e,g⟩
def zdM.less(h:zdM M A B){b:Nat}(d:(Keep b∨Own B Z b)∨Own A Z b):Keep b∨Own M Z b:=d.elim (λd=>d.imp id h.ownB) λd=>.inr (h.ownA d)
def zdM.not(h:zdM M A B)(o:zI Keep M Z w){b:Nat}(l:Own A Z b):¬(Keep b∨Own B Z b):=λd=>by
 rcases d with d|d
 .exact(o.old b (h.ownA l)).2 d
 obtain⟨k,m,v,g,u,x⟩:=l;obtain⟨y,z,C,e,s,t⟩:=d;exact o.apart k m y z v C b (h.a _ g) (h.b _ e) (h.ne _ g _ e) u s x t
def zmV(h:zdM M A B)(d:zI Keep M Z w):zI (λb=>Keep b∨Own B Z b) A Z w:=
 ⟨λk m o=>(d.rel k m (h.a _ o)).less2 (λ_=>h.less) λ_=>h.ownA,h.pw,λk m s t v u b g l=>d.apart k m s t v u b (h.a _ g) (h.a _ l),
  λb e=>⟨(d.old b (h.ownA e)).1,h.not d e⟩,λb e=>e.elim (d.kp b) λe=>(d.old b (h.ownB e)).1,d.glO λb=>h.ownA⟩
def G.part(h:zdM M A B){s:SV}{v:Value}(e:G (λb=>Keep b∨Own M Z b) (Own M Z) Z w s v):G (λb=>(Keep b∨Own B Z b)∨Own A Z b) (Own A Z) Z w s v:=
 e.mono (Xj _) (λ_ _ d=>⟨λk=>d (h.less k),rfl⟩) (λ_ _ d=>⟨λk=>d (h.ownA k),rfl⟩) λ_ _ h=>h
end
section
def zf6(n:Nat):LT->LT
 |[]=>[]
 |(k,m)::r=>match Nat.ble n k with
  |true=>(k,m)::zf6 n r
  |false=>zf6 n r
def zdE{n:Nat}:∀{M:LT} {x:Nat×Mem},x∈zf6 n M->x∈M/\n<=x.1
 |(k,m)::r,x,h=>by
  unfold zf6 at h
  split at h
  .rename_i b
   rcases XA.1 h with rfl|h
   .exact⟨.head _,Xw b⟩
   exact⟨.tail _ (zdE h).1,(zdE h).2⟩
  exact⟨.tail _ (zdE h).1,(zdE h).2⟩
def zqG{n:Nat}:∀{M:LT},(M.Pairwise λa b=>a.1≠b.1)->(zf6 n M).Pairwise λa b=>a.1≠b.1
 |[],_=>.nil
 |(k,m)::r,h=>by
  obtain⟨e,d⟩:=XT.1 h;unfold zf6
  split
  .exact XT.2 ⟨λy g=>e y (zdE g).1,zqG d⟩
  exact zqG d
def zw5(M:LT):LT->Prop
 |[]=>True
 |(k,m)::r=>zO M k=some m/\zw5 M r
def zkx{M:LT}:∀{M0:LT},zw5 M M0->∀x∈M0,x∈M
 |(k,m)::r,h,x,b=>by
  rcases XA.1 b with rfl|b
  .exact zu h.1
  exact zkx h.2 x b
def endK(n:Nat)(I:LS)(rs:List ResultVar)(r:SV)(M:LT)(e:Ex)(O:St):Prop:=
 match e with
 |.exit _=>False
 |_=>zw5 O.M M/\zaw O I rs λs=>LE (zgt (zO (zf6 M.length O.M)) n s) r
variable{P:Program}{I:LS}{f:FuncId}{fn:Func}{c:Code}{M:LT}{r:SV}
def zmW(n:Nat)(hT:TOK P I)(W:P.follows .mixedOrders=true){args:LR}(V:P.funcs[f]?=some fn)(t:fn.body=some c)(F:(fn.name== "runtime.NumGoroutine")=false) (o:Nat.ble args.length fn.ntmps=true) (hM:∀x∈M,x.1<M.length) (J:M.Pairwise λa b=>a.1≠b.1)
  (h:js P I c ⟨qG 0 args,M,M.length,fn.ntmps,M.length⟩ (endK n I fn.results.toList r M)):kL P f args M r M:=by
 refine vj hT W V t F o h (λe O h=>⟨O,.refl,h⟩) (λe O l U=>?_) (λid O l=>l)
 have l:zw5 O.M M/\zaw O I fn.results.toList λs=>LE (zgt (zO (zf6 M.length O.M)) n s) r:=by
  cases e with
  |exit id=>exact absurd rfl (U id)
  |normal=>exact l
  |ret=>exact l
 obtain⟨Q,l⟩:=l;obtain⟨s,o,T⟩:=jj hT l;refine⟨s,T,λ{E Z a w v} z hW _ N=>?_⟩;have H:zdM O.M (zf6 M.length O.M) M:=⟨λx K=>(zdE K).1,zkx Q,λx K y Y=>by have:=(zdE K).2;have:=hM y Y;omega,zqG z.mem.keys⟩;obtain⟨g1,S⟩:=z.mem.let_go (zkx Q) J;have g:=z.stp;refine⟨Z,⟨g.os,g.tape,g.output,g.size,λb t F=>g.block b t λh=>F ((hW b).1 h),λb t=>(g.own b (H.ownB t)).imp (hW b).1 λh=>h,g.rho⟩,S,?_⟩
 have L:∀{s:SV} {v:Value},G (λb=>E.Keep b∨Own O.M Z b) (Own O.M Z) Z w s v->D (λb=>E.Keep b∨Own M Z b) w (frz (zO (zf6 M.length O.M)) n s) v:=λh=>
  zlZ (λk m h=>zu h) (zmV H z.mem) n (G.part H h)
 refine o _ _ _ _ _ ?_;unfold zgt
 split
 .rename_i R;obtain⟨vs,rfl,u⟩:=N.tup_inv;refine .tup _ vs (by rw[Xv];exact u.1) λj s v g X=>?_
  rw[XD]at g
  cases C:R[j]? with
  |none=>simp[C]at g
  |some c=>
   simp[C]at g;subst g;exact .d _ _ (L (u.2 j c v C X))
 exact .d _ _ (L N)
def zC1{P:Program}{I:LS}(hT:TOK P I)(l:P.follows .mixedOrders=true){J:St->Prop}{E:Env}{R:LF}:∀(n:Nat) (c:Code) {O:St} {Z:zh} {a:Act} {w:World},
  zrp P I n c J O (λ_ _=>False)->Rel E O Z a w->(∀O Z a w,J O->Rel E O Z a w->(znK n c).wp P R a w)->c.wp P R a w
 |0,_,_,_,_,_,h,g,hJ=>hJ _ _ _ _ h g
 |n+1,.seq x y,O,_,_,_,h,g,hJ=>by
  refine wp_seq (Code.wp_mono (λe m w' d=>?_) (kR hT l x g h))
  cases e with
  |normal=>obtain⟨O',Z',b,k⟩:=d;exact zC1 hT l n y b k hJ
  |exit id=>obtain⟨_,_,b,_⟩:=d;exact b.elim
  |ret=>obtain⟨_,_,b,_⟩:=d;exact b.elim
  |_=>exact d.elim
 |_+1,.skip,_,_,_,_,h,_,_=>h.elim
 |_+1,.region ..,_,_,_,_,h,_,_=>h.elim
 |_+1,.cond ..,_,_,_,_,h,_,_=>h.elim
 |_+1,.block ..,_,_,_,_,h,_,_=>h.elim
 |_+1,.loop ..,_,_,_,_,h,_,_=>h.elim
 |_+1,.rangeFunc ..,_,_,_,_,h,_,_=>h.elim
 |_+1,.exit ..,_,_,_,_,h,_,_=>h.elim
 |_+1,.scope ..,_,_,_,_,h,_,_=>h.elim
 |_+1,.label ..,_,_,_,_,h,_,_=>h.elim
 |_+1,.goto ..,_,_,_,_,h,_,_=>h.elim
 |_+1,.ret,_,_,_,_,h,_,_=>h.elim
 |_+1,.refuse ..,_,_,_,_,h,_,_=>h.elim
def Rest(P:Program)(I:LS)(fn:Func)(c:Code)(r:SV)(O:St):Prop:=zaz P c O (endW I fn.results.toList r)
def zjV(hT:TOK P I)(hm:P.follows .mixedOrders=true){args:LR}(n:Nat)(hf:P.funcs[f]?=some fn)(g:fn.body=some c)(z:(fn.name== "runtime.NumGoroutine")=false) (C:Nat.ble args.length fn.ntmps=true) (X:M.Pairwise λa b=>a.1≠b.1) (hlow:uf 0 r=true) (W:pfS r=true)
  (h:zrp P I n c (λO=>∃(A:LT) (L:LP),zdM O.M A M/\(∀t s,kw L t=some s->kw O.L t=some s)/\Rest P I fn (znK n c) r ⟨L,A,O.nk,O.nt,0⟩)
   ⟨qG 0 args,M,M.length,fn.ntmps,M.length⟩ λ_ _=>False):kL P f args M r M:=by
 refine⟨⟨fn,hf,z,by rw[g];rfl⟩,λKeep Z w vs _ H hρ hg=>calls_of_wp hf g ?_⟩;have J:=yU (nt:=fn.ntmps) H hρ hg (Xw C);refine zC1 hT hm n c h J λO Z1 a1 R ⟨A,L,x,hL,K⟩ u=>?_
 have hmA:=zmV x u.mem
 have Y:Rel ⟨R,λ_=>none,λb=>Keep b∨Own M Z1 b,Own A Z1,[]⟩ ⟨L,A,O.nk,O.nt,0⟩ Z1 a1 R:=
  ⟨u.size,u.defers,λt s hl=>⟨(u.regs t s (hL t s hl)).1,G.part x (u.regs t s (hL t s hl)).2⟩,hmA,u.fresh,⟨rfl,rfl,.refl _,Xj _,λ_ _ _=>rfl,λ_ h=>.inl h,λ_ _ h=>nomatch h⟩,hmA.kp,λ_ _ h=>nomatch h⟩
 refine Code.wp_mono (λe S w' y=>?_) (K _ _ _ _ Y)
 have D:∀O2 Z2,endW I fn.results.toList r .normal O2->Rel ⟨R,λ_=>none,λb=>Keep b∨Own M Z1 b,Own A Z1,[]⟩ O2 Z2 S w'->S.defers=[]/\∃v,(results fn S.tmps).run P w'=.ok v w'/\∃Q Z',Ending.returned v=.returned Q/\Stp (Own M Z) (Own M Z') Z Z' w w'/\
   zI Keep M Z' w'/\G (λb=>Keep b∨Own M Z' b) (Own M Z') Z' w' r Q:=by
  intro O2 Z2 y o;obtain⟨s,C,T⟩:=jj hT y;obtain⟨v,g1,U⟩:=T o;have l:=u.stp;have d:=o.stp;have nA:∀b,Own M Z1 b->¬Own A Z1 b:=λb g E=>x.not u.mem E (.inr g)
  have N:Stp (Own O.M Z1) (Own M Z1) Z1 Z1 R w':=⟨d.os,d.tape,d.output,d.size,λb g z=>d.block b g λE=>z (x.ownA E),λb g=>.inl (x.ownB g),λ_ _ h=>h⟩;refine⟨o.defers,v,g1,v,Z1,rfl,⟨d.os.trans l.os,d.tape.trans l.tape,l.output.trans d.output,XC l.size d.size,λb g z=>?_,λb g=>l.own b (x.ownB g),l.rho⟩,?_,?_⟩
  .refine(d.block b (Xx g l.size) λE=>?_).trans (l.block b g z);exact(l.own b (x.ownA E)).elim z λk=>absurd g (Yb.2 k)
  .exact⟨λk m V=>(u.mem.rel k m (x.b _ V)).keep N rfl λv b hv F=>d.block b (u.mem.old b ⟨k,m,v,x.b _ V,hv,F⟩).1 (nA b ⟨k,m,v,V,hv,F⟩),X,
    λk m k' m' v Q b T h2=>u.mem.apart k m k' m' v Q b (x.b _ T) (x.b _ h2),λb g=>⟨Xx (u.mem.old b (x.ownB g)).1 d.size,(u.mem.old b (x.ownB g)).2⟩,
    λb g=>Xx (u.mem.kp b g) d.size,u.mem.glS N⟩
  exact G.low (Z:=Z2) (λk v h=>absurd h (Nat.not_lt_zero k)) ((C _ _ _ _ o.mem U).pf (Xj _) (λb _ z=>⟨λk=>z (.inl k),rfl⟩) W) hlow
 cases e with
 |normal=>obtain⟨O2,Z2,y,o⟩:=y;exact D O2 Z2 y o
 |ret=>obtain⟨O2,Z2,y,o⟩:=y;exact D O2 Z2 y o
 |exit id=>obtain⟨_,_,y,_⟩:=y;exact y.elim
 |_=>exact y.elim
def zmX:∀{n:Nat} {K:LI},K n->zqP n K
 |0,_,h=>h
 |n+1,K,h=>show zqP n _ from zmX (n:=n) (K:=λm=>K (m+1)) h
def zw6{ks:LC}{Y nn:Nat}:∀{l:LT},(∀y∈l,y.1∈ks∨(Y<=y.1/\y.1<Y+nn))->ztH ks Y nn l=true
 |[],_=>rfl
 |(k,m)::r,h=>by
  show yp (zm3 k ks||(Nat.ble Y k&&Nat.blt k (Y+nn))) (ztH ks Y nn r)=true;rw[zw6 λy e=>h y (XR _ e)]
  rcases h _ (X0 ..) with h|⟨b,d⟩
  .rw[zg1 h];rfl
  rw[QZ b,zdy d,Bool.and_self,Bool.or_true];rfl
def zo1{k:Nat}:∀{l:LT},k∈l.map (·.1)->zf9 k l=true
 |(q,m)::r,h=>by
  unfold zf9
  split
  .rfl
  rename_i e
  rcases XA.1 h with h|h
  .rw[h,KQ]at e;cases e
  exact zo1 h
def ztu{new:LT}{Y:Nat}:∀{n:Nat},(∀z,Y<=z->z<Y+n->z∈new.map (·.1))->zga new Y n=true
 |0,_=>rfl
 |n+1,h=>by
  show yp (zf9 (Y+n) new) (zga new Y n)=true;rw[zo1 (h (Y+n) oM oM),ztu λz b d=>h z b oM];rfl
def zIc{Y nn:Nat}{ks:LC}{new:LT}{K:Prop}(h:∀y∈new,y.1∈ks∨(Y<=y.1/\y.1<Y+nn))(b:∀z,Y<=z->z<Y+nn->z∈new.map (·.1))(k:K):mdD Y (.give ks new nn) K:=by
 show zS (yp (ztH ks Y nn new) (zga new Y nn)) K;rw[zw6 h,ztu b];exact k
def ixM(s:Sc)(t:Qt)(F:Nat->Nat):LT:=(0,.box 38 (scE s++[.own 1,.loc 2 0]))::(1,.arr 30 rcE 4 (bxN s s.ns.length))::mdQ t F
def zFr{s:Sc}{t:Qt}{d:Mem}(h:t.w<500):∀y∈mdQ t (λx=>2+x),lmU none 601 (za0 ((600,d)::ixM s t λx=>2+x) 601) y.1=some y.2:=λy b=>by
 obtain⟨x,k,e⟩:=zbR b;have e:y.1=2+x:=e;have g:Nat.blt y.1 601=true:=zdy oM;unfold lmU zdH za0;rw[g];show zO ((600,d)::ixM s t λx=>2+x) y.1=some y.2;unfold ixM;rw[kQ,Xc oM,kQ,Xc oM,kQ,Xc oM];exact ze6 (zh3 λx y _ _ e=>by have e:2+x=2+y:=e;omega) b
def zGk{s:Sc}{t:Qt}:(ixM s t λx=>2+x).Pairwise λa b=>a.1≠b.1:=by
 have k:∀y∈mdQ t (λx=>2+x),2<=y.1:=λy d=>by
  obtain⟨x,g,e⟩:=zbR d;have e:y.1=2+x:=e;omega
 unfold ixM;refine XT.2 ⟨λy d=>?_,XT.2 ⟨λy d=>?_,zh3 λx y _ _ e=>by have e:2+x=2+y:=e;omega⟩⟩
 .rcases XA.1 d with rfl|d
  .show(0:Nat)≠1;omega
  have:=k y d;show 0≠y.1;omega
 have:=k y d;show 1≠y.1;omega
def zw7{s:Sc}{d:Qt}{F:Nat->Nat}{A:LT}(k:F 0=2)(inj:Inj d F)(hF:∀x,x<=d.w->2<=F x)(l:(0,Mem.box 38 (scE s++[.own 1,.loc 2 0]))∈A)(m:(1,Mem.arr 30 rcE 4 (bxN s s.ns.length))∈A)(o:∀y∈mdQ d F,y∈A):zjU (0::1::lab d F) (d.w+3) A (ixM s d λx=>2+x):=by
 have b:∀x,x<=d.w->rn (0::1::lab d F) 0 (2+x)=F x:=λx h=>vE (by rw[Q6];exact zdz h)
 refine⟨λx y h g e=>?_,zGk,λy g=>?_⟩
 .rcases x with _|_|x <;> rcases y with _|_|y
  .rfl
  .cases e
  .rw[show y+1+1=2+y by omega,b y oM]at e;have e:0=F y:=e;have:=hF y oM;omega
  .cases e
  .rfl
  .rw[show y+1+1=2+y by omega,b y oM]at e;have e:1=F y:=e;have:=hF y oM;omega
  .rw[show x+1+1=2+x by omega,b x oM]at e;have e:F x=0:=e;have:=hF x oM;omega
  .rw[show x+1+1=2+x by omega,b x oM]at e;have e:F x=1:=e;have:=hF x oM;omega
  rw[show x+1+1=2+x by omega,show y+1+1=2+y by omega,b x oM,b y oM]at e;have:=inj x y oM oM e;omega
 rcases XA.1 g with rfl|g
 .refine⟨by show 0<_;omega,rfl,?_⟩;show(0,Mem.box 38 (scE s++[.own 1,.loc (rn (0::1::lab d F) 0 (2+0)) 0]))∈_;rw[b 0 (Xh _),k];exact l
 rcases XA.1 g with rfl|g
 .exact⟨by show 1<_;omega,tV,m⟩
 refine⟨?_,(zeQ d (λx h=>by show 2+x<_;omega) y g).1,o _ ?_⟩
 .obtain⟨x,h,e⟩:=zbR g;have e:y.1=2+x:=e;omega
 have:=zcs (ks:=0::1::lab d F) (Y:=0) g;rw[zqu,uU d b]at this;exact this
def zFs{s:Sc}{t g:Qt}{F:Nat->Nat}{m:Mem}(v:t.w<500)(o:F 0=2)(inj:Inj g F)(hF:∀x,x<=g.w->2<=F x):
  zjU (0::1::lab g F) (g.w+3) (mdQ g F++jJ ((600,m)::ixM s t λx=>2+x) (lab t λx=>2+x)) (ixM s g λx=>2+x):=by
 have out:∀k,k<2->k∉lab t λx=>2+x:=λk u h=>by
  obtain⟨x,_,e⟩:=XK.1 h;have e:2+x=k:=e;omega
 have l:((600,m)::ixM s t λx=>2+x).Pairwise λa b=>a.1≠b.1:=XT.2 ⟨λy d=>by
  show 600≠y.1
  rcases XA.1 d with rfl|d
  .show(600:Nat)≠0;omega
  rcases XA.1 d with rfl|d
  .show(600:Nat)≠1;omega
  obtain⟨x,z,e⟩:=zbR d;have e:y.1=2+x:=e
  omega,zGk⟩
 exact zw7 o inj hF (Kt _ (zka l (XR _ (X0 ..)) (out 0 oM))) (Kt _ (zka l (XR _ (XR _ (X0 ..))) (out 1 oM))) λy d=>Kz _ d
def zaz.sub{O O':St}{Q:LH}(b:zaz P c O' Q)(h:Sub O O'):zaz P c O Q:=λE Z a w q=>by
 obtain⟨Z',d⟩:=h E Z a w q;exact b E Z' a w d
def ixS0(s:Sc):St:=⟨[(4,.loc 3 0)],[(3,.box 38 (scE s++([.own 1,.loc 2 0]:LR))),(2,.box 81 (quE (arN s 0) nS)),(1,.arr 30 rcE 4 (bxN s 0))],4,92,0⟩
def zo2(s:Sc)(hl:ltS s)(Q:qy s)(h8:s.ns.length<=8):zaz prog (znK 3 (f10.body.getD .skip)) (ixS0 s) (endW tt f10.results.toList (.tup [.dptr (ixT s),i64 0])):=by
 have ht:=zfC hl;have h64:=yR Q;have hn:∀n∈s.ns,ltN n:=λn L=>hl.2 n (by rw[Xi oM];exact L)
 refine zaz.vc tok mix λhl1=>?_
 refine⟨Nat,λi=>⟨[(28,i64 i),(27,i64 s.ns.length),(26,.sl ndE s.ns),(4,.loc 3 0)],[(3,.box 38 (scE s++([.own 1,.loc 2 0]:LR))),(2,.box 81 (quE (arN s i) nS)),(1,.arr 30 rcE 4 (bxN s i))],4,92,0⟩,
  λi=>i<=s.ns.length,λi=>s.ns.length-i,0,Xh _,zB [(1,some 1),(2,some 2),(3,some 3)],?_⟩
 rintro i hi
 have hi:i<=s.ns.length:=hi;refine⟨λg:(i:Int)<s.ns.length=>?_,λg=>?_⟩
 .have gi:i<s.ns.length:=oM;refine wb λn G=>?_;have en:=zmQ (show s.ns[i]?=some n from G);have r1:0<=(i:Int)/\(i:Int)<(bxN s i).length:=by rw[zdD];omega
  refine⟨λc=>?_,λc=>?_⟩
  .have c:ndK s i≠1:=by rw[en];exact c
   have eb:=zFo gi c;have r2:0<=(i:Int)/\(i:Int)<(bxN s (i+1)).length:=by rw[zdD];omega
   have ebx:(bxN s (i+1))[i]?=some (zao s i):=by
    rw[zmS gi,Xe oM];unfold bxK;rw[Xe c]
   refine wd<|wg (zHZ s i ht)<|Ob.mk r1<|Ob.mk r1 λz T=>?_;refine⟨zao s i,rfl,?_⟩;rw[show(bxN s i).set (i:Int).toNat (zao s i)=bxN s (i+1) from eb];refine wh<|wd<|Ob.mk r2<|Ob.mk r2 λz T=>?_;rw[show z=zao s i from Xl ((show(bxN s (i+1))[i]?=some z from T).symm.trans ebx)];refine wg (zwJ (arN s i) (zao s i))<|wh<|wa ?_;have U:arN s (i+1)=zbW (arN s i) (zao s i):=Xe c
   exact⟨i+1,by show i+1<=_;omega,zdI [(1,some 1),(2,some 2),(3,some 3)] ⟨rfl,Xg (λq=>some (Mem.box 81 (quE q nS))) U.symm,rfl,tV⟩,oN⟩
  have c:¬ndK s i≠1:=λk=>c (by rw[←en];exact k)
  refine wa ?_;have U:arN s (i+1)=arN s i:=Xc c;exact⟨i+1,by show i+1<=_;omega,zdI [(1,some 1),(2,some 2),(3,some 3)] ⟨rfl,Xg (λq=>some (Mem.box 81 (quE q nS))) U.symm,aR (zCQ c).symm,tV⟩,oN⟩
 obtain rfl:i=s.ns.length:=by have g:¬(i:Int)<s.ns.length:=g;omega
 have hbl:=zdD s s.ns.length;intro hl2
 refine⟨Nat,λi=>⟨[(75,i64 i),(74,i64 ((bxN s s.ns.length).length:Int)),(73,.own 1),(4,.loc 0 0)],ixM s (qt s i) λx=>2+x,600,92,0⟩,
  λi=>i<=(bxN s s.ns.length).length,λi=>(bxN s s.ns.length).length-i,0,Xh _,zB [(0,some 3),(1,some 1),(2,some 2),(3,none)],?_⟩
 rintro i hi
 have hi:i<=(bxN s s.ns.length).length:=hi;have tw:=zu5 s i;have tn:=zmU s i;refine⟨λg:(i:Int)<(bxN s s.ns.length).length=>?_,λg=>?_⟩
 .obtain⟨b,J⟩:∃b,(bxN s s.ns.length)[i]?=some b:=⟨_,Xb oM⟩;have eg:(bxN s s.ns.length).getD i qj=b:=by rw[Xs,J];rfl
  refine wb<|wb λz T=>?_;rw[show z=b from Xl ((show(bxN s s.ns.length)[i]?=some z from T).symm.trans J)];refine wg (zdr b)<|⟨λc=>?_,λc=>?_⟩
  .obtain⟨F,N,F0,Finj,Fb,Fc,hc⟩:=zIb i b 6 (qt s i) oM oM oM
   have V:qt s (i+1)=(qt s i).ins i b 6:=by
    show(if _ then _ else _)=_;rw[eg];exact Xc c
   rw[←V]at Finj Fb Fc hc
   have ha:∀Y,LEs [.loc 2 0,i64 i,wr b,i64 0] (vr.rens (lab (qt s i) λx=>2+x) Y [.loc 0 0,i64 i,wr b,i64 (6-((6:Nat):Int))]):=λY=>by
    show LEs _ [.loc (rn _ Y 0) 0,i64 i,wr b,i64 0];rw[vE (zdz (Xh _))];exact .refl
   refine wd<|zoO (t:=qt s i) (g:=λx=>2+x) (λx y _ _ e=>by have e:2+x=2+y:=e;omega) (zFr (s:=s) (t:=qt s i) oM) Fb hc (ha _) rfl ?_;have lo:∀x,F x<=(qt s i).w->rn (lab (qt s i) λx=>2+x) 601 (F x)=2+F x:=λx h=>vE (zdz h)
   have m:∀x,¬F x<=(qt s i).w->rn (lab (qt s i) λx=>2+x) 601 (F x)=601+(F x-((qt s i).w+1)):=λx h=>by rw[zc6 (by rw[zav];omega),zav]
   refine zIc (λy H=>?_) (λz R h2=>?_) ?_
   .obtain⟨x,G,e⟩:=zbR H;have e:y.1=rn (lab (qt s i) λx=>2+x) 601 (F x):=e;have:=Fb x G
    by_cases c:F x<=(qt s i).w
    .refine .inl (XK.2 ⟨F x,XV.2 oM,?_⟩);rw[e,lo x c]
    rw[m x c]at e;exact .inr oM
   .obtain⟨x,G,e⟩:=Fc ((qt s i).w+1+(z-601)) oM oM;rw[zh2];refine XK.2 ⟨x,XV.2 oM,?_⟩;rw[m x oM,e];omega
   refine wh<|zmX<|wa<|zmX ?_;have tw':=zu5 s (i+1);have z0:F 0<=(qt s i).w:=oM;refine⟨i+1,by show i+1<=_;omega,zC0 rfl oM (zFs oM (by rw[lo 0 z0,F0]) (λx y G H e=>?_) λx G=>?_) λt' v h=>?_,oN⟩
   .have e:rn (lab (qt s i) λx=>2+x) 601 (F x)=rn (lab (qt s i) λx=>2+x) 601 (F y):=e;refine Finj x y G H ?_
    by_cases c:F x<=(qt s i).w <;> by_cases d:F y<=(qt s i).w
    .rw[lo x c,lo y d]at e;omega
    .rw[lo x c,m y d]at e;omega
    .rw[m x c,lo y d]at e;omega
    rw[m x c,m y d]at e;omega
   .show 2<=rn (lab (qt s i) λx=>2+x) 601 (F x)
    by_cases c:F x<=(qt s i).w
    .rw[lo x c];omega
    rw[m x c];omega
   have h:kw [(75,i64 ((i+1:Nat):Int)),(74,i64 ((bxN s s.ns.length).length:Int)),(73,.own 1),(4,.loc 0 0)] t'=some v:=h;rw[zV,zV,zV,zV]at h
   split at h
   .rename_i q;rw[←q,←Xl h];exact⟨rfl,rfl⟩
   split at h
   .rename_i q;rw[←q,←Xl h];exact⟨rfl,rfl⟩
   split at h
   .rename_i q;rw[←q,←Xl h];exact⟨rfl,rfl⟩
   split at h
   .rename_i q;rw[←q,←Xl h];exact⟨rfl,rfl⟩
   cases h
  refine wa ?_
  have V:qt s (i+1)=qt s i:=by
   show(if _ then _ else _)=_;rw[eg];exact Xe (Xa.1 c)
  refine⟨i+1,by show i+1<=_;omega,?_,oN⟩;show Sub _ ⟨[(75,i64 ((i+1:Nat):Int)),(74,i64 ((bxN s s.ns.length).length:Int)),(73,.own 1),(4,.loc 0 0)],ixM s (qt s (i+1)) λx=>2+x,600,92,0⟩;rw[V]
  refine zC0 rfl oM (zw7 (F:=λx=>2+x) rfl (λx y _ _ e=>by have e:2+x=2+y:=e;omega) (λx _=>by show 2<=2+x;omega) (XR _ (X0 ..)) (XR _ (XR _ (X0 ..)))
   λy H=>XR _ (XR _ (XR _ H))) λt' v h=>?_
  have h:kw [(75,i64 ((i+1:Nat):Int)),(74,i64 ((bxN s s.ns.length).length:Int)),(73,.own 1),(4,.loc 0 0)] t'=some v:=h;rw[zV,zV,zV,zV]at h
  split at h
  .rename_i q;rw[←q,←Xl h];exact⟨rfl,rfl⟩
  split at h
  .rename_i q;rw[←q,←Xl h];exact⟨rfl,rfl⟩
  split at h
  .rename_i q;rw[←q,←Xl h];exact⟨rfl,rfl⟩
  split at h
  .rename_i q;rw[←q,←Xl h];exact⟨rfl,rfl⟩
  cases h
 obtain rfl:i=s.ns.length:=by have g:¬(i:Int)<(bxN s s.ns.length).length:=g;omega
 intro Keep Z w v L K;obtain⟨us,rfl,E⟩:=K.tup_inv;refine .tup _ us E.1 λj s' v X Q=>?_
 rcases j with _|_|j
 .cases X
  obtain⟨b',R,rfl⟩:=(E.2 0 _ v rfl Q).loc_inv;refine .d _ _ (D.less (S:=Keep) (λb h=>h.resolve_right zK) (zCY L (X0 ..) R rfl λj s0 s' u o C K=>?_))
  rcases j with _|_|_|_|_|_|_|_|_|j
  all_goals first
   |(cases o;cases C;rw[K.val_inv];exact .val _)
   |(cases o;cases C;exact K.sl_inv.less λb h=>.inl h)
   |skip
  .cases o;cases C
   have R:=XR (0,Mem.box 38 (scE s++[.own 1,.loc 2 0])) (X0 (a:=(1,Mem.arr 30 rcE 4 (bxN s s.ns.length))) (l:=mdQ (qt s s.ns.length) λx=>2+x));exact zgT L R (λb J=>.inl J) (λv b Q J W=>(L.old b ⟨1,_,v,R,Q,J⟩).2 W) K.own_inv.1
  .cases o;cases C
   obtain⟨b2,h2,rfl⟩:=K.loc_inv;exact zIa L _ (λx=>2+x) (λy H=>XR _ (XR _ H)) b2 h2
  cases o
 .cases X
  rw[(E.2 1 _ v rfl Q).val_inv];exact .d _ _ (.val _)
 cases X
def zC2(s:Sc)(b:ltS s)(d:qy s)(e:s.ns.length<=8):CX 10 [wq s] (.tup [.dptr (ixT s),i64 0]):=by
 have ht:=zfC b;have m:∀n∈s.ns,ltN n:=λn l=>b.2 n (by rw[Xi oM];exact l)
 refine zjV tok mix 3 func10 rfl rfl rfl .nil rfl rfl<|wg (zhY s ht.tame)<|⟨λk=>absurd d k,λ_=>?_⟩;refine wd<|wg (zCF s oM m) λg=>?_;refine⟨Rc,rcE,qj,rfl,Ob.mk ⟨dC,oM,K4 _,(by show(s.ns.length:Int)*(32:Int)<=_;omega),oM⟩ ?_⟩;refine wh ?_
 exact⟨_,_,⟨λ_ h=>h,λ_ h=>(nomatch h),λ_ _ _ h=>(nomatch h),zd8 rfl⟩,λ_ _ h=>h,(zo2 s b d e).sub (zdI [(1,some 1),(2,some 2),(3,some 3)] ⟨rfl,rfl,aR zCZ.symm,tV⟩)⟩
end
end Go.Gs
