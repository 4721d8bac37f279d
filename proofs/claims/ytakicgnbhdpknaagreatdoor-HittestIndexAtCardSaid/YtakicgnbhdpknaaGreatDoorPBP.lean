/- Quadtrees: insert. -/
import Derived.Test.YtakicgnbhdpknaaGreatDoorPBO
set_option maxRecDepth 100000
set_option maxHeartbeats 8000000
set_option linter.all false
namespace Go.Gs
open Proofs.Tryz
open Go.Proofs
section
def zeL{P:Program}{H:LS}(y:Nat)(hT:TOK P H)(J:P.follows .mixedOrders=true){f:FuncId}{fn:Func}{c:Code}{args:LR}{M M':LT}{r:SV}(u:M.length<=y)(A:P.funcs[f]?=some fn)(z:fn.body=some c)(K:(fn.name== "runtime.NumGoroutine")=false) (l:Nat.ble args.length fn.ntmps=true)
  (h:jw P H c ⟨jm 0 args,M,y,fn.ntmps,M.length⟩ (endG H fn.results.toList r M')):qg P f args M r M':=by
 refine⟨⟨fn,A,K,by rw[z];rfl⟩,λKeep O w vs _ m hρ F=>calls_of_wp A z ?_⟩;have hrel:=vg (nt:=fn.ntmps) m hρ F (Xz l);have hrel:Rel ⟨w,O,Keep,Own M O,[]⟩ ⟨jm 0 args,M,y,fn.ntmps,M.length⟩ O _ w:=⟨hrel.size,hrel.defers,hrel.regs,hrel.mem,λk I=>hρ k (XB u I),hrel.stp,hrel.keep,hrel.low⟩;refine Code.wp_mono (λe t w' d=>?_) (kU hT J c hrel h)
 have fin:∀Z O1,(∃Z',Sub Z Z'/\Z'.M=M'/\zbm Z' H fn.results.toList λs=>LE s r)->Rel ⟨w,O,Keep,Own M O,[]⟩ Z O1 t w'->t.defers=[]/\∃v,(results fn t.tmps).run P w'=.ok v w'/\∃B O',Ending.returned v=.returned B/\Stp (Own M O) (Own M' O') O O' w w'/\
   zJ Keep M' O' w'/\G (λb=>Keep b∨Own M' O' b) (Own M' O') O' w' r B:=by
  clear d
  rintro Z0 L ⟨Z,o,rfl,d⟩ x
  obtain⟨O1,g⟩:=o _ _ _ _ x;obtain⟨s,l,E⟩:=jL hT d;obtain⟨v,C,D⟩:=E g;exact⟨g.defers,v,C,v,O1,rfl,g.stp,g.mem,l _ _ _ _ _ D⟩
 cases e with
 |normal=>obtain⟨Z,O1,d,g⟩:=d;exact fin Z O1 d g
 |ret=>obtain⟨Z,O1,d,g⟩:=d;exact fin Z O1 d g
 |exit id=>obtain⟨Z,O1,d,g⟩:=d;exact d.elim
 |_=>exact d.elim
def zCi(L:LP):LP->Prop
 |[]=>True
 |(t,s)::r=>kF L t=some s/\zCi L r
def zoB{L:LP}:∀{L':LP},zCi L L'->∀t s,kF L' t=some s->kF L t=some s
 |(d,s')::r,⟨b,c⟩,t,s,h=>by
  rw[zU]at h
  split at h
  .rename_i e;rw[←e,b];exact h
  exact zoB c t s h
variable{Z:St}
def zCj{L':LP}(h:zCi Z.L L'):Sub Z ⟨L',Z.M,Z.nk,Z.nt,Z.n0⟩:=λ_ O _ _ b=>
 ⟨O,b.size,b.defers,λt s c=>b.regs t s (zoB h t s c),b.mem,b.fresh,b.stp,b.keep,b.low⟩
def zwu(t k:Nat){T:TypeId}{u:LR}(P:kF Z.L t=some (.loc k 0))(A:(k,.box T u)∈Z.M)(R:∀c∈u,∃v,c=.val v):
  Sub Z ⟨(t,.dptr u)::Z.L,qb Z.M k,Z.nk,Z.nt,Z.n0⟩:=λE O a w f=>by
 obtain⟨o,Q⟩:=f.mem.let_go (M1:=qb Z.M k) (λx S=>qj x S) (qP f.mem.keys);have own:∀b,Own (qb Z.M k) O b->Own Z.M O b:=λb ⟨k,m,v,y,z,D⟩=>⟨k,m,v,qj _ y,z,D⟩
 refine⟨O,f.size,f.defers,λB s C=>?_,Q,f.fresh,f.stp.trans o,f.keep,f.low⟩;have h:kF ((t,SV.dptr u)::Z.L) B=some s:=C;clear C;rw[zU]at h
 split at h
 .rename_i e;subst e;obtain rfl:=Xl h;obtain⟨G,H⟩:=f.regs t _ P;refine⟨G,?_⟩;obtain⟨b,hρ,e⟩:=H.loc_inv;obtain⟨X,vs,y,z,D,I,J⟩:=f.mem.rel k _ A;rw[hρ]at y;cases y
  have l:=f.mem.old b ⟨k,_,_,A,hρ,rfl⟩;rw[e];refine .d _ _ (.dptr _ b 0 (λj=>(vs[j]?).getD undef) l.1 (λh=>?_) (λj Y=>?_) (λj s o=>?_))
  .rcases h with h|⟨U,V,W,F,K,N⟩
   .exact l.2 h
   exact f.mem.apart k _ U V _ W b A (qj _ F) (λe=>vu f.mem.keys _ F e.symm) hρ K rfl N
  .have g:j<vs.length:=by omega
   rw[X8,zch z];simp only[Xb g,KP];exact⟨tV,I _ (X2 g)⟩
  obtain⟨v,rfl⟩:=R s (Xf o);have g:j<vs.length:=by have:=(Xd.1 o).1;omega
  have:=J j _ _ o (Xb g);rw[Xb g,KP,this.val_inv];exact .val v
 exact⟨(f.regs B s h).1,(f.regs B s h).2.mono (Xj _) (λb _ l=>⟨λh=>l (h.imp id (own b)),rfl⟩) (λb _ l=>⟨λh=>l (own b h),rfl⟩) λ_ _ h=>h⟩
def zCk(a b:Rc):CX 62 [wr a,wr b] (pr (a.within b)):=by
 exact zc func62<|wd<|wg (zpW a b)<|wg (zfl a)<|wh<|zB zFi
def qrt(a:Rc):List Rc:=[⟨a.x0,a.y0,a.x0+(a.x1-a.x0)/2,a.y0+(a.y1-a.y0)/2⟩,⟨a.x0+(a.x1-a.x0)/2,a.y0,a.x1,a.y0+(a.y1-a.y0)/2⟩,
 ⟨a.x0,a.y0+(a.y1-a.y0)/2,a.x0+(a.x1-a.x0)/2,a.y1⟩,⟨a.x0+(a.x1-a.x0)/2,a.y0+(a.y1-a.y0)/2,a.x1,a.y1⟩]
def zux(a:Rc)(h:1<a.area):CX 61 [wr a] (.sl rcE (qrt a)):=by
 have b:¬a.mt:=λk=>by unfold Rc.area at h;rw[Rc.canon_pos k]at h;exact absurd h dC
 obtain⟨⟨⟨c,d⟩,⟨e,f⟩,⟨c1,g⟩,l,m⟩,o,s⟩:=Rc.notmt b;refine zc func61<|wd<|wa<|Dv.pos ⟨oM,dC,by show _<=(9223372036854775807:Int);omega⟩ ?_;(iterate 2 refine wa ?_);refine Dv.pos ⟨oM,dC,by show _<=(9223372036854775807:Int);omega⟩<|wa<|wh<|⟨Rc,rcE,qrt a,rfl,wb0 ?_⟩;exact z6 rfl
def zgs(t:Qt)(f:Nat->Nat):(mdQ t f).length=t.w+1:=by
 have:=Xg List.length (zhL t f)
 rwa [Xw,Xw,Ki]at this
variable{a:Rc}{es:LV}{p:Qt}{q:Qt}{r:Qt}{j:Nat}
def zED{s:Qt}(d:j<4)(m:(Qt.node a es p q r s).w<500):Inj ((Qt.node a es p q r s).kid j) (shQ id (3+j) ((Qt.node a es p q r s).base j))/\
  ∀y∈mdQ ((Qt.node a es p q r s).kid j) (shQ id (3+j) ((Qt.node a es p q r s).base j)),zaZ (mdQ (.node a es p q r s) id) 513 y.1=some y.2:=by
 obtain⟨g,k,l⟩:=zdr a es p q r s j d;refine⟨λx y f c h=>?_,λy c=>?_⟩
 .cases x <;> cases y <;> simp only[shQ,id]at h <;> omega
 obtain⟨x,f,e⟩:=zbM c
 have b:y.1<513:=by
  rw[e]
  cases x <;> simp only[shQ,id] <;> omega
 unfold zaZ;rw[zdp b];exact zck (zhM (zp5 _)) (vP.2 (.inr (.inr (.inr ⟨j,d,c⟩))))
def divK(a:Rc)(es:LV):Nat->SV
 |0=>.val (.slice none 0 0)
 |_+1=>.own 2
def divM(a:Rc)(es:LV)(j:Nat):LT:=(0,.box 80 (rcE a++[.own 1,divK a es j]))::(1,.arr 3 zM 1 es)::(match j with
 |0=>[]
 |j+1=>(2,.garr 77 1 ((List.range (j+1)).map λx=>[.loc (3+x) 0]))::(List.range (j+1)).map λx=>(3+x,.box 80 (rcE ((qrt a).getD x qp)++[.val (.slice none 0 0),.val (.slice none 0 0)])))
def zCl(t:Qt)(i:Int)(y:Nat×Mem):Prop:=y=(0,.box 80 (rcE t.area++[.own 514,t.kidR id]))∨y=(514,.arr 3 zM 1 (t.ents++[i]))∨(y∈mdQ t id/\y.1≠0/\y.1≠1)
def zCm(t:Qt)(v:t.w<500)(i d:Int)(b:Rc)(M':LT)(g:t.ents.length<=1000)(h:¬d<6∨¬1<t.area.area)(e:M'.Pairwise λa b=>a.1≠b.1)(hA:∀y∈M',zCl t i y):
  CG0 35 [.loc 0 0,i64 i,wr b,i64 d] (mdQ t id) (.tup []) M':=by
 obtain⟨a,es⟩|⟨a,es,p,q,r,s⟩:=t
 all_goals
  have g:es.length<=1000:=g;refine zeL 512 tok mix (by rw[zgs];omega) func35 rfl rfl rfl ?_;rw[zgs];refine⟨λc1=>?_,λc1=>?_⟩;refine wg (zl3 a)<|⟨λf=>absurd h (λk=>k.elim (λk=>k c1) λk=>k f),λf=>?_⟩
  all_goals
   refine⟨Int,zM,[i],rfl,wb3 ?_⟩;refine⟨[i],rfl,Ob.mk ⟨by show((es.length:Int)+1)*8<=_;omega,by rw[XZ];omega,dC,λx o=>by rw[Xu.1 o];rfl⟩ ?_⟩;refine⟨_,zp6 (λy u=>?_) e,rfl,.refl⟩
   rcases hA y u with rfl|rfl|⟨c,l,m⟩
   .first|exact .head _|exact .tail _ (.head _)|exact .tail _ (.tail _ (.head _))|exact .tail _ (.tail _ (.tail _ (.head _)))
   .first|exact .head _|exact .tail _ (.head _)|exact .tail _ (.tail _ (.head _))|exact .tail _ (.tail _ (.tail _ (.head _)))
   rcases XH.1 c with rfl|c
   .exact absurd rfl l
   rcases XH.1 c with rfl|c
   .exact absurd rfl m
   first|exact .tail _ (.tail _ c)|exact .tail _ (.tail _ (.tail _ c))|exact .tail _ (.tail _ (.tail _ (.tail _ c)))
def zsW(t:Qt){s:Qt}(hU:t.cut=.node a es p q r s)(W:(Qt.node a es p q r s).w<500)(i d:Int)(b:Rc)(M':LT)(hl:es.length<=1000)(G:0<=d/\d<6)(f:1<a.area)(u:M'.Pairwise λa b=>a.1≠b.1)(hA:(∀j,j<4->¬b.within ((Qt.node a es p q r s).kid j).area)->∀y∈M',zCl (Qt.node a es p q r s) i y)(hC:∀j,j<4->b.within ((Qt.node a es p q r s).kid j).area->(∀k,k<j->¬b.within ((Qt.node a es p q r s).kid k).area)->∃B A N,(∀x,x<=B.w->A x<((Qt.node a es p q r s).kid j).w+1+N)/\
   CG0 35 [.loc 0 0,i64 i,wr b,i64 (d+1)] (mdQ ((Qt.node a es p q r s).kid j) id) (.tup []) (mdQ B A)/\∀y∈M',y∈mdQ B (λx=>rn (lab ((Qt.node a es p q r s).kid j) (shQ id (3+j) ((Qt.node a es p q r s).base j))) 513 (A x))++
    yc (mdQ (.node a es p q r s) id) (lab ((Qt.node a es p q r s).kid j) (shQ id (3+j) ((Qt.node a es p q r s).base j)))):
  CG0 35 [.loc 0 0,i64 i,wr b,i64 d] (mdQ t id) (.tup []) M':=by
 have z:∀c∈rcE b,∃v,c=.val v:=λc F=>by
  simp only[rcE,XH,XV,or_false]at F
  rcases F with rfl|rfl|rfl|rfl <;> exact⟨_,rfl⟩
 have kk:∀j,j<4->Inj ((Qt.node a es p q r s).kid j) (shQ id (3+j) ((Qt.node a es p q r s).base j))/\∀y∈mdQ ((Qt.node a es p q r s).kid j) (shQ id (3+j) ((Qt.node a es p q r s).base j)),zaZ (mdQ (Qt.node a es p q r s) id) 513 y.1=some y.2:=λj l=>zED l W
 obtain⟨U,hUU⟩:∃U,U=(Qt.node a es p q r s):=⟨_,rfl⟩;rw[←hUU]at hA hC kk
 obtain⟨H,C⟩|⟨H,C,p',q',r',s'⟩:=t
 cases hU
 refine zeL 512 tok mix (by rw[zgs];show 1+1<=512;decide) func35 rfl rfl rfl<|Br.mk (λ_=>?_) (λk=>absurd G.2 k);refine wg (zl3 a)<|⟨λ_=>?_,λk=>absurd f k⟩;refine we<|wg (zux a f) λE=>?_;refine⟨Nat,λj=>⟨[(34,i64 j),(33,i64 4),(32,.sl rcE (qrt a)),(6,.dptr (rcE b)),(3,i64 d),(1,i64 i),(0,.loc 0 0)],divM a es j,513,83,2⟩,λj=>j<=4,λj=>4-j,0,Xh _,?_,?_⟩
 .exact(zwu 6 512 (T:=47) rfl (XY ..) z).trans (zCj ⟨rfl,rfl,rfl,rfl,rfl,rfl,rfl,tV⟩)
 rintro j l
 have l:j<=4:=l;refine⟨λg:(j:Int)<4=>?_,λg=>?_⟩
 .have X:0<=(j:Int)/\(j:Int)<((qrt a).length:Int):=by show 0<=(j:Int)/\(j:Int)<(4:Nat);omega
  obtain⟨k,m⟩:∃k,j+1=k:=⟨_,rfl⟩;obtain rfl|rfl|rfl|rfl:j=0∨j=1∨j=2∨j=3:=oM
  all_goals
   refine Ob.mk X λx e=>?_
   cases e
   refine wd<|⟨[[.loc 514 0]],rfl,wb8 ?_⟩;refine Ob.mk ⟨dC,dC,dC⟩<|wh<|Ar.fit dC<|⟨k,oM,?_,oN⟩;subst m
   first
   |exact zt [0,1,516,514] ⟨rfl,rfl,⟨_,rfl,rfl,λi x e=>by rcases i with _|_|_|_|i <;> first|(cases e;exact⟨_,rfl,rfl⟩)|cases e⟩,rfl,tV⟩
   |exact zt [0,1,516,3,514] ⟨rfl,rfl,⟨_,rfl,rfl,λi x e=>by rcases i with _|_|_|_|i <;> first|(cases e;exact⟨_,rfl,rfl⟩)|cases e⟩,rfl,rfl,tV⟩
   |exact zt [0,1,516,3,4,514] ⟨rfl,rfl,⟨_,rfl,rfl,λi x e=>by rcases i with _|_|_|_|i <;> first|(cases e;exact⟨_,rfl,rfl⟩)|cases e⟩,rfl,rfl,rfl,tV⟩
   |exact zt [0,1,516,3,4,5,514] ⟨rfl,rfl,⟨_,rfl,rfl,λi x e=>by rcases i with _|_|_|_|i <;> first|(cases e;exact⟨_,rfl,rfl⟩)|cases e⟩,rfl,rfl,rfl,rfl,tV⟩
 obtain rfl:j=4:=by have g:¬(j:Int)<4:=g;omega
 intro V;refine⟨Nat,λj=>⟨[(56,i64 j),(55,i64 4),(54,.own 2),(6,.dptr (rcE b)),(3,i64 d),(1,i64 i),(0,.loc 0 0)],mdQ U id,513,83,2⟩,λj=>j<=4/\∀k,k<j->¬b.within (U.kid k).area,λj=>4-j,0,⟨Xh _,λk h=>by omega⟩,?_,?_⟩
 .subst hUU;exact zdy [(0,some 0),(1,some 1),(2,some 2),(3,some 3),(4,some 4),(5,some 5),(6,some 6),(7,none),(8,none),(9,none),(10,none)] ⟨rfl,rfl,⟨_,rfl,rfl,λi x e=>by rcases i with _|_|_|_|i <;> first|(cases e;exact⟨_,rfl,rfl⟩)|cases e⟩,rfl,rfl,rfl,rfl,rfl,rfl,rfl,rfl,tV⟩
 rotate_left
 cases hU
 refine zeL 512 tok mix (by rw[zgs];omega) func35 rfl rfl rfl ?_;rw[zgs];refine⟨λ_=>?_,λk=>absurd G.2 k⟩;refine wg (zl3 a)<|⟨λ_=>?_,λk=>absurd f k⟩;intro S;refine⟨λI=>absurd I dC,λ_=>?_⟩;intro E;refine⟨Nat,λj=>⟨[(56,i64 j),(55,i64 4),(54,.own 2),(6,.dptr (rcE b)),(3,i64 d),(1,i64 i),(0,.loc 0 0)],mdQ U id,513,83,(Qt.node a es p q r s).w+1⟩,λj=>j<=4/\∀k,k<j->¬b.within (U.kid k).area,λj=>4-j,0,⟨Xh _,λk h=>by omega⟩,?_,?_⟩
 .subst hUU;exact(zwu 6 512 (T:=47) rfl (XY ..) z).trans (zCj ⟨rfl,rfl,rfl,rfl,rfl,rfl,rfl,tV⟩)
 all_goals
  rintro j ⟨l,D⟩
  refine⟨λg:(j:Int)<4=>?_,λg:¬(j:Int)<4=>?_⟩
  .have o:j<4:=oM;obtain⟨k1,k2⟩:=kk j o;have go:=hC j o;clear hC;have hw:=zCk b (U.kid j).area
   have R:∀Y,LEs [.loc (3+j) 0,i64 i,wr b,i64 (d+1)] (vS.rens (lab (U.kid j) (shQ id (3+j) (U.base j))) Y [.loc 0 0,i64 i,wr b,i64 (d+1)]):=λY=>by
    show LEs _ [.loc (rn _ Y 0) 0,i64 i,wr b,i64 (d+1)];rw[vz (zdq (Xh _))];exact .refl
   clear kk hA;subst hUU;obtain⟨k,m⟩:∃k,j+1=k:=⟨_,rfl⟩;obtain rfl|rfl|rfl|rfl:j=0∨j=1∨j=2∨j=3:=oM
   all_goals
    refine wb1<|wb1 λx e=>?_
    cases e
    refine wd<|wg hw<|wh<|⟨λc=>?_,λc=>?_⟩
    .obtain⟨B,A,N,J,K,L⟩:=go c D;exact wa<|zop k1 k2 J K (R _) rfl<|⟨_,zp6 L u,rfl,.refl⟩
    refine Ar.fit dC<|⟨k,⟨oM,λi hi=>?_⟩,?_,oN⟩
    .subst m
     rcases Jf.1 hi with h|h
     .exact D i h
     rw[h];exact c
    subst m;exact zCj ⟨rfl,rfl,rfl,rfl,rfl,rfl,rfl,tV⟩
  have hA:=hA λk m=>D k oM
  clear kk hC;subst hUU;refine⟨Int,zM,[i],rfl,wb3 ?_⟩;refine⟨[i],rfl,Ob.mk ⟨by show((es.length:Int)+1)*8<=_;omega,by rw[XZ];omega,dC,λx e=>by rw[Xu.1 e];rfl⟩ ?_⟩;refine⟨_,zp6 (λy hy=>?_) u,rfl,.refl⟩
  rcases hA y hy with rfl|rfl|⟨f,P,Q⟩
  .first|exact .head _|exact .tail _ (.head _)|exact .tail _ (.tail _ (.head _))|exact .tail _ (.tail _ (.tail _ (.head _)))
  .first|exact .head _|exact .tail _ (.head _)|exact .tail _ (.tail _ (.head _))|exact .tail _ (.tail _ (.tail _ (.head _)))
  rcases XH.1 f with rfl|f
  .exact absurd rfl P
  rcases XH.1 f with rfl|f
  .exact absurd rfl Q
  first|exact .tail _ (.tail _ f)|exact .tail _ (.tail _ (.tail _ f))|exact .tail _ (.tail _ (.tail _ (.tail _ f)))
def zi2(x:Nat):Nat:=if x=1 then 514 else x
def zwv{x:Nat}(h:x≠1):zi2 x=x:=Xc h
def zi3(t:Qt)(i:Int):(t.push i).w=t.w:=by cases t <;> rfl
def zsX{t:Qt}(h:t.w<500):Inj t zi2:=λx y b c e=>by
 unfold zi2 at e
 split at e <;> split at e <;> omega
variable{i:Int}
def zsY{t:Qt}(h:t.w<500):∀y∈mdQ (t.push i) zi2,zCl t i y:=by
 intro y b
 obtain⟨a,es⟩|⟨a,es,p,q,r,s⟩:=t
 .rcases XH.1 b with rfl|b
  .exact .inl rfl
  rw[Xu.1 b];exact .inr (.inl rfl)
 have bf:=zdr a es p q r s
 rcases vP.1 b with rfl|rfl|rfl|⟨k,c,b⟩
 .exact .inl rfl
 .exact .inr (.inl rfl)
 .exact .inr (.inr ⟨vP.2 (.inr (.inr (.inl rfl))),by show zi2 2≠0;decide,by show zi2 2≠1;decide⟩)
 have b:y∈mdQ ((Qt.node a es p q r s).kid k) (shQ zi2 (3+k) ((Qt.node a es p q r s).base k)):=by
  obtain rfl|rfl|rfl|rfl:k=0∨k=1∨k=2∨k=3:=oM
  all_goals exact b
 obtain⟨f,l,m⟩:=bf k c;rw[uQ _ (g:=shQ id (3+k) ((Qt.node a es p q r s).base k)) λx d=>?_]at b
 .obtain⟨x,d,e⟩:=zbM b;refine .inr (.inr ⟨vP.2 (.inr (.inr (.inr ⟨k,c,b⟩))),?_,?_⟩ ) <;> rw[e] <;> cases x <;> simp only[shQ,id] <;> omega
 cases x with
 |zero=>exact zwv oM
 |succ x=>exact zwv oM
def zEE{s:Qt}(b:j<4):((Qt.node a es p q r s).kid j).all.length<=(Qt.node a es p q r s).all.length:=by
 obtain rfl|rfl|rfl|rfl:j=0∨j=1∨j=2∨j=3:=oM
 all_goals simp only[Qt.kid,Qt.all,Xq];omega
def zsZ(t:Qt):t.ents.length<=t.all.length:=by
 cases t with
 |leaf a es=>exact Xj _
 |node a es p q r s=>simp only[Qt.ents,Qt.all,Xq];omega
def zFu(t:Qt):t.cut.w<=t.w+9:=by
 cases t with
 |leaf a es=>exact Xj _
 |node a es p q r s=>exact Q4 _ _
def zoC(P:LI)[DecidablePred P]:∀n,(∃j,j<n/\P j/\∀k,k<j->¬P k)∨∀j,j<n->¬P j
 |0=>.inr λj h=>oM
 |n+1=>by
  obtain⟨j,e,b⟩|h:=zoC P n
  .exact .inl ⟨j,oM,b⟩
  by_cases c:P n
  .exact .inl ⟨n,oM,c,h⟩
  refine .inr λj d=>?_
  rcases Jf.1 d with k|k
  .exact h j k
  rw[k];exact c
def zuy{t:Qt}{s:Qt}{b:Rc}{n:Nat}(c:¬t.area.area<=1)(e:t.cut=.node a es p q r s):t.ins i b (n+1)=if b.within p.area then .node a es (p.ins i b n) q r s else if b.within q.area then .node a es p (q.ins i b n) r s
  else if b.within r.area then .node a es p q (r.ins i b n) s else if b.within s.area then .node a es p q r (s.ins i b n) else .node a (es++[i]) p q r s:=by
 rw[Qt.ins,Xc c,e]
def zHh(i:Int)(b:Rc):∀(n:Nat) (t:Qt),n<=6->t.w+9*n<490->t.all.length<=1000->∃F N,F 0=0/\Inj (t.ins i b n) F/\(∀x,x<=(t.ins i b n).w->F x<t.w+1+N)/\
  CG0 35 [.loc 0 0,i64 i,wr b,i64 (6-(n:Int))] (mdQ t id) (.tup []) (mdQ (t.ins i b n) F):=by
 have push:∀(t:Qt) (n:Nat),t.w<490->t.all.length<=1000->(¬(6-(n:Int))<6∨¬1<t.area.area)->∃F N,F 0=0/\Inj (t.push i) F/\(∀x,x<=(t.push i).w->F x<t.w+1+N)/\
   CG0 35 [.loc 0 0,i64 i,wr b,i64 (6-(n:Int))] (mdQ t id) (.tup []) (mdQ (t.push i) F):=λt n B g h=>by
  have hi:Inj (t.push i) zi2:=zsX (by rw[zi3];omega);refine⟨zi2,514,rfl,hi,λx o=>?_,zCm t oM i _ b _ (XB (zsZ t) g) h (zhM hi) (zsY oM)⟩;rw[zi3]at o;unfold zi2
  split <;> omega
 intro n
 induction n with
 |zero=>exact λt _ B g=>push t 0 oM g (.inl oM)
 |succ n H=>
  intro t L B g
  by_cases y:t.area.area<=1
  .rw[show t.ins i b (n+1)=t.push i from Xe y];exact push t (n+1) oM g (.inr oM)
  obtain⟨p,q,r,s,e,C⟩:=t.cut_is;have A:=zFu t;have z:(Qt.node t.area t.ents p q r s).all.length<=1000:=by rw[←e,C];exact g
  rw[e]at A;have m:=XB (zsZ t) g
  rcases zoC (λj=>b.within ((Qt.node t.area t.ents p q r s).kid j).area) 4 with⟨j,v,k,d⟩|none
  .have eins:t.ins i b (n+1)=(Qt.node t.area t.ents p q r s).put j (((Qt.node t.area t.ents p q r s).kid j).ins i b n):=by
    rw[zuy y e];obtain rfl|rfl|rfl|rfl:j=0∨j=1∨j=2∨j=3:=oM
    .exact Xe k
    .exact(Xc (d 0 oM)).trans (Xe k)
    .exact(Xc (d 0 oM)).trans ((Xc (d 1 oM)).trans (Xe k))
    exact(Xc (d 0 oM)).trans ((Xc (d 1 oM)).trans ((Xc (d 2 oM)).trans (Xe k)))
   obtain⟨I,J,K⟩:=zdr t.area t.ents p q r s j v;obtain⟨D,N,E,inj,hN,G⟩:=H ((Qt.node t.area t.ents p q r s).kid j) oM oM (XB (zEE v) z);obtain⟨F,F0,_,Finj,Fb,Fm⟩:=zym (Y:=513) rfl v rfl rfl rfl oM E inj hN;rw[eins];refine⟨F,513+N,F0,Finj,λx o=>by have:=Fb x o;omega,zsW t e oM i _ b _ m ⟨oM,oM⟩ oM (zhM Finj) (λh=>absurd k (h j v)) λu l f hlt'=>?_⟩
   obtain rfl:u=j:=by
    rcases Qv u j with c|c|c
    .exact absurd f (d u c)
    .exact c
    exact absurd k (hlt' j c)
   refine⟨_,D,N,hN,?_,Fm⟩;rw[show(6:Int)-((n+1:Nat):Int)+1=6-(n:Int) by omega];exact G
  have eins:t.ins i b (n+1)=(Qt.node t.area t.ents p q r s).push i:=by
   rw[zuy y e];exact(Xc (none 0 oM)).trans ((Xc (none 1 oM)).trans ((Xc (none 2 oM)).trans (Xc (none 3 oM))))
  have hi:Inj ((Qt.node t.area t.ents p q r s).push i) zi2:=zsX (by rw[zi3];omega);rw[eins];refine⟨zi2,514,rfl,hi,λx o=>?_,zsW t e oM i _ b _ m ⟨oM,oM⟩ oM (zhM hi) (λ_=>zsY oM) λu l f _=>absurd f (none u l)⟩;rw[zi3]at o;unfold zi2
  split <;> omega
def qtE:Qt->LR
 |.leaf a es=>rcE a++[.sl zM es,.val (.slice none 0 0)]
 |.node a es p q r s=>rcE a++[.sl zM es,.sl (λj:Nat=>[.dptr (match j with
  |0=>qtE p
  |1=>qtE q
  |2=>qtE r
  |_=>qtE s)]) (List.range 4)]
end
section
variable{Keep:LI}{M:LT}{O:zh}{w:World}
def zHi(A:zJ Keep M O w){k:Nat}{T:TypeId}{sz:Nat}{xs:LN}(t:(k,Mem.garr T sz xs)∈M){enc:Nat->LR}(y:∀i x,xs[i]?=some x->(enc i).length=sz)(N:∀(i j:Nat) x s s' u,xs[i]?=some x->x[j]?=some s->(enc i)[j]?=some s'->G (λb=>Keep b∨Own M O b) (Own M O) O w s u->D Keep w s' u){v:Value}(C:O k=some v):D Keep w (.sl enc (List.range xs.length)) v:=by
 obtain⟨R,cells,hρ,d,z,hone,hesz,c⟩:=A.rel k _ t;rw[C]at hρ;cases hρ
 obtain⟨rfl,F⟩|⟨g,cap,E,rfl,_,hheap,o,K,L,htake⟩:=d.2
 .have:xs=[]:=Xp F;subst this;exact .nil enc _
 have J:=d.1
 have I:∀i j,i<xs.length->j<sz->∃u,cells[i*sz+j]?=some u:=λi j hi f=>by
  have H:i*sz+sz<=xs.length*sz:=by
   have:=Xv sz (X6 hi);rw[X7]at this;exact this
  exact⟨_,Xb (show i*sz+j<cells.length by omega)⟩
 have m:=A.old g ⟨k,_,_,t,C,rfl⟩;have:=D.sl (S:=Keep) (w:=w) enc (List.range xs.length) sz g 0 cap (λi j=>(cells[i*sz+j]?).getD undef) m.1 m.2 (by rw[Ki];omega) (by rw[Ki];exact o) (λx l=>?_) (λi j hi f=>?_) (λi j x s l B=>?_)
 .rwa [Ki]at this
 .exact y x _ (Xb (XU.1 l))
 .rw[Ki]at hi;obtain⟨u,h⟩:=I i j hi f;rw[h];refine⟨?_,hone u (Xf h)⟩;have:=zbo hheap htake h
  simpa[X8] using this
 have hi:i<xs.length:=by
  have:=(Xd.1 l).1
  rwa [Ki]at this
 rw[KQ hi]at l;obtain rfl:=Xl l;have e:=Xb hi
 have f:j<xs[i].length:=by
  have H:=y i _ e;have P:=(Xd.1 B).1;have Q:=hesz _ (X2 hi);omega
 obtain⟨u,h,m⟩:=c i j _ _ e (Xb f);rw[h];exact N i j _ _ s u e (Xb f) B m
def zCn(m:zJ Keep M O w){k b:Nat}{T:TypeId}{e d:LR}(l:(k,Mem.box T e)∈M)(hρ:O k=some (.pointer (some ⟨b,0,none⟩)))(B:d.length=e.length)(y:∀(j:Nat) s s' u,e[j]?=some s->d[j]?=some s'->G (λb=>Keep b∨Own M O b) (Own M O) O w s u->D Keep w s' u):D Keep w (.dptr d) (.pointer (some ⟨b,0,none⟩)):=by
 obtain⟨z,vs,g,t,A,v,x⟩:=m.rel k _ l;rw[hρ]at g;cases g
 have h:=m.old b ⟨k,_,_,l,hρ,rfl⟩;refine .dptr _ b 0 (λj=>(vs[j]?).getD undef) h.1 h.2 (λj f=>?_) (λj s o=>?_)
 .have c:j<vs.length:=by omega
  rw[X8,zch t];simp only[Xb c,KP];exact⟨tV,v _ (X2 c)⟩
 have f:j<e.length:=by have:=(Xd.1 o).1;omega
 have c:j<vs.length:=oM;rw[Xb c,KP];exact y j _ s _ (Xb f) o (x j _ _ (Xb f) (Xb c))
def zHj(o:zJ Keep M O w):∀(t:Qt) (F:Nat->Nat),(∀y∈mdQ t F,y∈M)->∀b,O (F 0)=some (.pointer (some ⟨b,0,none⟩))->D Keep w (.dptr (qtE t)) (.pointer (some ⟨b,0,none⟩)):=by
 have zmG:∀{T sz} {es:LV} {k:Nat},(k,Mem.arr T zM sz es)∈M->∀u,G (λb=>Keep b∨Own M O b) (Own M O) O w (.own k) u->D Keep w (.sl zM es) u:=λ{T sz es k} H u c=>
  zgC o H (λb C=>.inl C) (λv b L C E=>(o.old b ⟨k,_,v,H,L,C⟩).2 E) c.own_inv.1
 intro t
 induction t with
 |leaf a es=>
  intro F hF b hρ;refine zCn o (hF _ (XY ..)) hρ rfl λj s s' u z d c=>?_
  rcases j with _|_|_|_|_|_|j
  all_goals first
   |(cases z;cases d;rw[c.val_inv];exact .val _)
   |(cases z;cases d;exact zmG (hF _ (XQ _ (XY ..))) u c)
   |cases z
 |node a es p q r s I J K z=>
  intro F hF b hρ;have mem:∀y,_->y∈M:=λy h=>hF y (zml.2 h)
  refine zCn o (hF _ (XY ..)) hρ rfl λj N s' u e d c=>?_
  rcases j with _|_|_|_|_|_|j
  all_goals first
   |(cases e;cases d;rw[c.val_inv];exact .val _)
   |(cases e;cases d;exact zmG (mem _ (.inr (.inl rfl))) u c)
   |skip
  .cases e
   cases d
   refine zHi o (mem _ (.inr (.inr (.inl rfl)))) (λi x _=>rfl) (λi j x s s' u B f A c=>?_) c.own_inv.1
   obtain rfl:j=0:=by
    have:=(Xd.1 A).1;have:j<1:=this;omega
   obtain rfl:=Xl A
   rcases i with _|_|_|_|i
   .cases B;cases f
    obtain⟨g,l,rfl⟩:=c.loc_inv;exact I _ (λy m=>mem y (.inr (.inr (.inr (.inl m))))) g l
   .cases B;cases f
    obtain⟨g,l,rfl⟩:=c.loc_inv;exact J _ (λy m=>mem y (.inr (.inr (.inr (.inr (.inl m)))))) g l
   .cases B;cases f
    obtain⟨g,l,rfl⟩:=c.loc_inv;exact K _ (λy m=>mem y (.inr (.inr (.inr (.inr (.inr (.inl m))))))) g l
   .cases B;cases f
    obtain⟨g,l,rfl⟩:=c.loc_inv;exact z _ (λy m=>mem y (.inr (.inr (.inr (.inr (.inr (.inr m))))))) g l
   cases B
  cases e
end
def zCo{s:Sc}:bxN s 0=List.replicate s.ns.length qp:=by
 unfold bxN;rw[List.eq_replicate_iff];refine⟨by rw[Xw,Ki],λb c=>?_⟩;obtain⟨k,_,rfl⟩:=XN.1 c;exact Xc (Nat.not_lt_zero _)
def endW(H:LS)(rs:List ResultVar)(r:SV)(e:Ex)(Z:St):Prop:=
 match e with
 |.exit _=>False
 |_=>zbm Z H rs λs=>∀(Keep:LI) (O:zh) (w:World) (v:Value),zJ Keep Z.M O w->G (λb=>Keep b∨Own Z.M O b) (Own Z.M O) O w s v->G (λb=>Keep b∨Own [] O b) (Own [] O) O w r v
def zuz{P:Program}{H:LS}(hT:TOK P H)(z:P.follows .mixedOrders=true){f:FuncId}{fn:Func}{c:Code}{args:LR}{r:SV}(x:P.funcs[f]?=some fn)(l:fn.body=some c)(o:(fn.name== "runtime.NumGoroutine")=false) (d:Nat.ble args.length fn.ntmps=true)
  (h:jw P H c ⟨jm 0 args,[],0,fn.ntmps,0⟩ (endW H fn.results.toList r)):qg P f args [] r []:=by
 refine v8 hT z x l o d h (λe Z h=>⟨Z,.refl,h⟩) (λe Z g u=>?_) (λid Z g=>g)
 have g:zbm Z H fn.results.toList λs=>∀(Keep:LI) (O:zh) (w:World) (v:Value),zJ Keep Z.M O w->G (λb=>Keep b∨Own Z.M O b) (Own Z.M O) O w s v->G (λb=>Keep b∨Own [] O b) (Own [] O) O w r v:=by
  cases e with
  |exit id=>exact absurd rfl (u id)
  |normal=>exact g
  |ret=>exact g
 obtain⟨s,d,t⟩:=jL hT g;refine⟨s,t,λ{E O a w v} m hW _ y=>⟨O,?_,?_,?_⟩⟩
 .have k:=m.stp;exact⟨k.os,k.tape,k.output,k.size,λb l o=>k.block b l λh=>o ((hW b).1 h),λb l=>absurd l zN,k.rho⟩
 .exact(qr m.mem.kp λ_ _ h=>m.mem.glc h)
 exact d _ _ _ _ m.mem y
def zmX(ks:LC)(n:Nat)(O:zh):zh:=λk=>if k<n then O (rn ks 0 k) else none
structure zjA (ks:LC) (n:Nat) (M M':LT):Prop where
 inj:∀x y,x<n->y<n->rn ks 0 x=rn ks 0 y->x=y
 pw:M'.Pairwise λa b=>a.1≠b.1
 mem:∀y∈M',y.1<n/\zqk n y.2/\(rn ks 0 y.1,zhX ks 0 y.2)∈M
section
variable{ks:LC}{n:Nat}{M M':LT}{Keep:LI}{O:zh}{w:World}
def zqf{k:Nat}{v:Value}(b:k<n)(h:O (rn ks 0 k)=some v):zmX ks n O k=some v:=(Xe b).trans h
def zqg{k:Nat}{v:Value}(h:zmX ks n O k=some v):k<n/\O (rn ks 0 k)=some v:=by
 unfold zmX at h
 split at h
 .exact⟨‹_›,h⟩
 cases h
def zjA.own(h:zjA ks n M M'){b:Nat}(f:Own M' (zmX ks n O) b):Own M O b:=by
 obtain⟨k,m,v,c,d,e⟩:=f;exact⟨_,_,v,(h.mem _ c).2.2,(zqg d).2,e⟩
def zjA.ok(h:zjA ks n M M')(d:zJ Keep M O w):zJ Keep M' (zmX ks n O) w:=by
 have A:Stp (Own M O) (Own M' (zmX ks n O)) (zmX ks n O) (zmX ks n O) w w:=⟨rfl,rfl,.refl _,Xj _,λ_ _ _=>rfl,λb c=>.inl (h.own c),λ_ _ h=>h⟩;refine⟨λk m o=>?_,h.pw,λk m C E v D b f g s l y z=>?_,λb c=>d.old b (h.own c),d.kp,d.glO λb c=>h.own c⟩
 .obtain⟨f,g,l⟩:=h.mem _ o;exact(znb (λ_ h=>h) (λk v o B=>zqf o B) f g (d.rel _ _ l)).keep A rfl (λ_ _ _ _=>rfl)
 obtain⟨c1,u⟩:=zqg l;obtain⟨t,x⟩:=zqg y;exact d.apart _ _ _ _ v D b (h.mem _ f).2.2 (h.mem _ g).2.2 (λe=>s (h.inj k C c1 t e)) u x z
end
def zCp{Z:St}{ks:LC}{L':LP}{M':LT}{n g:Nat}(o:Z.n0=0)(z:n<=g)(h:zjA ks n Z.M M')(hL:∀t s,kF L' t=some s->uU n s=true/\kF Z.L t=some (vS ks 0 s)):Sub Z ⟨L',M',g,Z.nt,Z.n0⟩:=λE O a w c=>by
 refine⟨zmX ks n O,c.size,c.defers,λt s y=>?_,h.ok c.mem,λk f=>?_,?_,c.keep,c.low⟩
 .obtain⟨u,x⟩:=hL t s y;obtain⟨l,m⟩:=c.regs t _ x;exact⟨l,(zgI (λ_ h=>h) (λk v f A=>zqf f A) s u m).mono (Xj _) (λb _ e=>⟨λk=>e (k.imp id h.own),rfl⟩) (λb _ e=>⟨λk=>e (h.own k),rfl⟩) λ_ _ h=>h⟩
 .exact Xc (by have f:g<=k:=f;omega)
 have d:=c.stp;exact⟨d.os,d.tape,d.output,d.size,d.block,λb e=>d.own b (h.own e),λk v h=>absurd (c.low k v h) (by rw[o];omega)⟩
def zs0{P:Program}{f:FuncId}{args:LR}{M M' M'':LT}{ks:LC}{n:Nat}(h:qg P f args M (.tup []) M')(l:∀k,k<M.length->rn ks 0 k=k)(B:M.length<=n)(ht:zjA ks n M' M''):
  qg P f args M (.tup []) M'':=by
 refine⟨h.1,λKeep O w vs z A hρ x=>(h.2 Keep O w vs z A hρ x).mono λ_ w' ⟨v,O1,e,d,m,g⟩=>?_⟩;obtain⟨us,rfl,o⟩:=g.tup_inv;refine⟨_,zmX ks n O1,e,⟨d.os,d.tape,d.output,d.size,d.block,λb u=>d.own b (ht.own u),λk v t=>?_⟩,ht.ok m,.tup [] us o.1 λj s v y=>by cases y⟩
 rcases Kc k M.length with c|c
 .exact zqf oM (by rw[l k c];exact d.rho k v t)
 rw[hρ k c]at t;cases t
def qq(s:Sc):Nat->Qt
 |0=>.leaf (arN s s.ns.length) []
 |k+1=>if ((bxN s s.ns.length).getD k qp).mt then qq s k else(qq s k).ins k ((bxN s s.ns.length).getD k qp) 6
def ixT(s:Sc):LR:=scE s++[.sl rcE (bxN s s.ns.length),.dptr (qtE (qq s s.ns.length))]
def put_w(t:Qt)(i:Int)(b:Rc):∀(n:Nat),(t.ins i b n).w<=t.w+9*n:=by
 intro n
 induction n generalizing t with
 |zero=>exact YQ (zi3 t i)
 |succ n c=>
  by_cases d:t.area.area<=1
  .rw[show t.ins i b (n+1)=t.push i from Xe d,zi3];omega
  obtain⟨p,q,r,s,e,_⟩:=t.cut_is;have f:=zFu t;rw[e]at f;have g:(Qt.node t.area t.ents p q r s).w=6+p.w+q.w+r.w+s.w:=rfl;have h:=c p;have k:=c q;have l:=c r;have m:=c s;rw[zuy d e]
  repeat' split
  all_goals simp only[Qt.w];omega
def zuA(s:Sc):∀k,(qq s k).w<=1+54*k
 |0=>Xj _
 |k+1=>by
  have b:=zuA s k;unfold qq
  split
  .omega
  exact XB (put_w _ _ _ 6) oM
def zmy(s:Sc):∀k,(qq s k).all.length<=k
 |0=>Xj _
 |k+1=>by
  have b:=zmy s k;unfold qq
  split
  .omega
  rw[(zdo _ _ _ _).length_eq];exact Nat.succ_le_succ b
def zHk(i:Int)(b:Rc)(n:Nat)(t:Qt)(R:n<=6)(T:t.w+9*n<490)(P:t.all.length<=1000):∃F N,F 0=0/\Inj (t.ins i b n) F/\(∀x,x<=(t.ins i b n).w->F x<t.w+1+N)/\
  (∀z,t.w+1<=z->z<t.w+1+N->∃x,x<=(t.ins i b n).w/\F x=z)/\
  CG0 35 [.loc 0 0,i64 i,wr b,i64 (6-(n:Int))] (mdQ t id) (.tup []) (mdQ (t.ins i b n) F):=by
 obtain⟨F,N,L,inj,hN,C⟩:=zHh i b n t R T P;obtain⟨u,S⟩:∃u,u=t.ins i b n:=⟨_,rfl⟩;rw[←S]at inj hN C ⊢;obtain⟨news,hnews⟩:∃news,news=(List.range (u.w+1)).filter λx=>decide (t.w<F x):=⟨_,rfl⟩
 have d:∀x,x∈news↔x<=u.w/\t.w<F x:=λx=>by
  rw[hnews,QE,XU,decide_eq_true_iff];exact⟨λh=>⟨oM,h.2⟩,λh=>⟨oM,h.2⟩⟩
 have m:news.Nodup:=by rw[hnews];exact List.nodup_range.filter _
 obtain⟨F2,hF2⟩:∃F2:Nat->Nat,F2=λx=>if F x<=t.w then F x else t.w+1+news.idxOf x:=⟨_,rfl⟩
 have old:∀x,F x<=t.w->F2 x=F x:=λx h=>by rw[hF2];exact Xe h
 have new:∀x,¬F x<=t.w->F2 x=t.w+1+news.idxOf x:=λx h=>by rw[hF2];exact Xc h
 obtain⟨ks,s⟩:∃ks,ks=List.range (t.w+1)++news.map F:=⟨_,rfl⟩
 have B:∀k,k<=t.w->rn ks 0 k=k:=λk h=>vz (by
  rw[s,XL (by rw[Ki];omega),KQ oM])
 have E:∀j (h:j<news.length),rn ks 0 (t.w+1+j)=F news[j]:=λj h=>vz (by
  rw[s,XF (by rw[Ki];omega),Ki,show t.w+1+j-(t.w+1)=j by omega,XD,Xb h];rfl)
 have ix:∀x,x<=u.w->¬F x<=t.w->∃h:news.idxOf x<news.length,news[news.idxOf x]=x:=λx o v=>by
  have h:=List.idxOf_lt_length_iff.2 ((d x).2 ⟨o,oM⟩);exact⟨h,List.getElem_idxOf h⟩
 have back:∀x,x<=u.w->rn ks 0 (F2 x)=F x:=λx f=>by
  by_cases c:F x<=t.w
  .rw[old x c,B _ c]
  obtain⟨o,v⟩:=ix x f c;rw[new x c,E _ o,v]
 have lt:∀x,x<=u.w->F2 x<t.w+1+news.length:=λx f=>by
  by_cases c:F x<=t.w
  .rw[old x c];omega
  obtain⟨o,v⟩:=ix x f c;rw[new x c];omega
 have inj2:Inj u F2:=λx y f l e=>inj x y f l (by rw[←back x f,←back y l,e])
 have D:F 0<=t.w:=oM;refine⟨F2,news.length,(old 0 D).trans L,inj2,lt,λz o v=>?_,zs0 (n:=t.w+1+news.length) C (λk A=>B k (by rw[zgs]at A;omega)) (by rw[zgs];omega) ⟨λx y f l e=>?_,zhM inj2,λy l=>⟨?_,(zeI u lt y l).1,?_⟩⟩⟩
 .obtain⟨j,rfl⟩:∃j,z=t.w+1+j:=⟨z-(t.w+1),oM⟩;have g:j<news.length:=oM;have Q:=(d _).1 (X2 g);exact⟨news[j],Q.1,by rw[new _ oM,m.idxOf_getElem j g]⟩
 .have val:∀z,z<t.w+1+news.length->(z<=t.w/\rn ks 0 z=z)∨∃j,∃h:j<news.length,z=t.w+1+j/\rn ks 0 z=F news[j]/\t.w<F news[j]:=λz D=>by
   rcases Kc t.w z with c|c
   .obtain⟨j,rfl⟩:∃j,z=t.w+1+j:=⟨z-(t.w+1),oM⟩;have g:j<news.length:=oM;exact .inr ⟨j,g,rfl,E j g,((d _).1 (X2 g)).2⟩
   exact .inl ⟨c,B z c⟩
  obtain⟨G,H⟩|⟨j,g,G,H,U⟩:=val x f <;> obtain⟨I,J⟩|⟨k,A,I,J,V⟩:=val y l
  .omega
  .omega
  .omega
  have K:=inj news[j] news[k] ((d _).1 (X2 g)).1 ((d _).1 (X2 A)).1 oM;have W:j=k:=by rw[←m.idxOf_getElem j g,←m.idxOf_getElem k A,K]
  omega
 .obtain⟨x,f,e⟩:=zbM l;rw[e];exact lt x f
 have e:ub ks 0 (mdQ u F2)=mdQ u F:=by rw[zp4];exact uQ u back
 rw[←e];exact zcj l
end Go.Gs
