/- Small scenes. -/
import Derived.Test.YtdkomlilfdbahaaGreatDoorMBD
set_option maxRecDepth 100000
set_option maxHeartbeats 80000000
set_option linter.all false
namespace Go.Gs
open Proofs.Tryz
open Go.Proofs
def ltP(p:Pnt):Prop:=p.t.le 12/\p.st.length<=30/\p.im.px.length<=300
instance (p:Pnt):Decidable (ltP p):=wi
def ltN(n:Nd):Prop:=(n.path.length<=24/\n.clip.length<=24/\n.pen.d.length<=20/\n.im.px.length<=300/\n.t.le 12/\n.fill.length<=3/\n.strk.length<=3)/\∀p∈n.fill++n.strk,ltP p
instance (n:Nd):Decidable (ltN n):=wi
def ltS(s:Sc):Prop:=¬(8<s.ns.length/\s.ns.length<=64)/\∀n∈s.ns.take 65,ltN n
instance (s:Sc):Decidable (ltS s):=wi
def zfC{s:Sc}(h:ltS s):ji s:=λz n d=>by
 have d:ltN n:=h.2 n (by rw[Xi oM];exact d);obtain⟨⟨k,o,u,v,e,w,y⟩,i⟩:=d
 have c:∀p∈n.fill++n.strk,p.t.le 1000/\p.im.px.length<=9223372036854775807:=λp c=>by
  obtain⟨g,_,j⟩:=i p c;exact⟨g.up dC,oM⟩
 exact⟨e.up dC,⟨e.up dC,λp q=>c p (Kz _ q),λp q=>c p (Kt _ q),oM⟩,oM,oM⟩
def zs9(s:Sc):CX 6 [wq s] (pr (ltS s)):=by
 refine zc func6 λQ=>?_;refine⟨λF=>?_,λF=>?_⟩
 all_goals first
  |(intro R;refine⟨λG=>zd λk=>k.1 ⟨oM,oM⟩,λG=>?_⟩;have H:¬(8<s.ns.length/\s.ns.length<=64):=λk=>G (by have:=k.2;omega))
  |have H:¬(8<s.ns.length/\s.ns.length<=64):=λk=>F (by have:=k.1;omega)
 all_goals
  refine⟨Nat,λi=>⟨[(3,i64 i),(1,.loc 0 0)],[(0,.box 26 (scE s))],1,114,0⟩,λi=>i<=(s.ns.take 65).length/\∀n∈(s.ns.take 65).take i,ltN n,λi=>(s.ns.take 65).length-i,0,⟨Xh _,λn z=>by cases z⟩,zf [0],?_⟩
  have U:(s.ns.take 65).length=min 65 s.ns.length:=Xp
  rintro i ⟨h1,I⟩
  have u:¬((i:Int)<s.ns.length/\(i:Int)<=64)->LE (bl true) (pr (ltS s)):=λh=>zH ⟨H,λn z=>I n (by rw[Xi oM];exact z)⟩
  intro S;refine⟨λg=>?_,λg=>u λk=>g k.1⟩;have g:(i:Int)<s.ns.length:=g;refine⟨λy=>?_,λy=>u λk=>y k.2⟩;have y:(i:Int)<=64:=y;refine wb λx(V:s.ns[i]?=some x)=>?_;have v:(s.ns.take 65)[i]?=some x:=by rw[XM,Xe oM];exact V
  have c:¬ltN x->LE (bl false) (pr (ltS s)):=λh=>zd λk=>h (k.2 x (Xf v))
  intro W;refine⟨λk=>c λq=>by have:=q.1.1;omega,λb1=>?_⟩;intro X;refine⟨λk=>c λq=>by have:=q.1.2.1;omega,λb2=>?_⟩;intro Y;refine⟨λk=>c λq=>by have:=q.1.2.2.1;omega,λb3=>?_⟩;intro Z;refine⟨λk=>c λq=>by have:=q.1.2.2.2.1;omega,λb4=>?_⟩;refine wg (zwE x.t)<|⟨λk=>c λq=>k q.1.2.2.2.2.1,λL=>?_⟩;intro a5;refine⟨λk=>c λq=>by have:=q.1.2.2.2.2.2.1;omega,λb6=>?_⟩;intro a6
  refine⟨λk=>c λq=>by have:=q.1.2.2.2.2.2.2;omega,λb7=>?_⟩
  have E:x.path.length<=24/\x.clip.length<=24/\x.pen.d.length<=20/\x.im.px.length<=300/\x.t.le 12/\x.fill.length<=3/\x.strk.length<=3:=
   ⟨oM,oM,oM,oM,Xa.1 L,oM,oM⟩
  refine wd<|⟨Pnt,qD,[],rfl,wb2 ?_⟩;refine⟨x.fill,rfl,Ob.mk ⟨by show(((0:Nat):Int)+(x.fill.length:Int))*_<=_;dsimp only;omega,by show 0+x.fill.length<=_;omega,dC,λ_ _=>rfl⟩ ?_⟩;refine⟨x.strk,rfl,Ob.mk ⟨by show((([]++x.fill:LY).length:Int)+(x.strk.length:Int))*_<=_;rw[QI];dsimp only;omega,by rw[QI];omega,dC,λ_ _=>rfl⟩ ?_⟩;refine wh ?_;rw[QI];generalize hP:x.fill++x.strk=P;have hPl:P.length<=6:=by rw[←hP,Xr];omega
  refine⟨Nat,λj=>⟨[(6,i64 j),(5,.own 2),(4,.loc 1 0),(3,i64 i),(1,.loc 0 0)],[(2,.arr 72 qD 40 P),(1,.box 60 (ndE x)),(0,.box 26 (scE s))],3,114,0⟩,λj=>j<=P.length/\∀p∈P.take j,ltP p,λj=>P.length-j,0,⟨Xh _,λp o=>by cases o⟩,zf [0,1,4],?_⟩
  rintro j ⟨j1,D⟩
  intro c0;refine⟨λq:(j:Int)<P.length=>?_,λq:¬(j:Int)<P.length=>?_⟩
  .refine wb<|wb λp(o:P[j]?=some p)=>?_;have T:p∈x.fill++x.strk:=by rw[hP];exact Xf o
   have badp:¬ltP p->LE (bl false) (pr (ltS s)):=λh=>c λk=>h (k.2 p T)
   refine wg (zwE p.t)<|⟨λk=>badp λw=>k w.1,λM=>?_⟩;refine wb<|wb λJ A=>?_;have N:J=p:=Xl ((show P[j]?=some J from A).symm.trans o);rw[N];intro c1;refine⟨λk=>badp λw=>by have:=w.2.1;omega,λd2=>?_⟩;refine wb<|wb λK C=>?_;have O:K=p:=Xl ((show P[j]?=some K from C).symm.trans o);rw[O];intro c2;refine⟨λk=>badp λw=>by have:=w.2.2;omega,λd3=>?_⟩;refine wa ?_
   have okp:ltP p:=⟨Xa.1 M,oM,oM⟩;refine⟨j+1,⟨oM,λw e=>?_⟩,zf [0,1,2],oN⟩;rw[Xn,o]at e
   rcases Xu.1 e with e|e
   .exact D w e
   rw[show w=p by simpa using e];exact okp
  rw[Xi oM]at D;refine wa<|⟨i+1,⟨oM,λw e=>?_⟩,zf [0],oN⟩;rw[Xn,v]at e
  rcases Xu.1 e with e|e
  .exact I w e
  rw[show w=x by simpa using e];exact⟨E,by rw[hP];exact D⟩
variable{rs:LQ}
def zCw{t:AF}(h:(yy rs t).2≠0):(yy rs t).1=[]:=by
 unfold yy at h ⊢
 by_cases c:¬kC rs
 .rw[Xe c]
 rw[Xc c]at h ⊢
 by_cases d:zdS t rs≠0
 .rw[Xe d]
 rw[Xc d]at h;exact absurd rfl h
variable{l:LX}{pen:Pen}{tol:Int}
def zwG{t:AF}(h:(zaV l pen t tol).2≠0):(zaV l pen t tol).1=[]:=by
 unfold zaV at h ⊢
 by_cases c:¬kF pen
 .rw[Xe c]
 rw[Xc c]at h ⊢
 by_cases d:(zY l tol).2≠0
 .rw[Xe d]
 rw[Xc d]at h ⊢
 by_cases e:(jX (zY l tol).1 pen).2≠0
 .rw[Xe e]
 rw[Xc e]at h ⊢
 by_cases g:(qz (jX (zY l tol).1 pen).1 pen).2≠0
 .rw[Xe g]
 rw[Xc g]at h ⊢;exact zCw h
def zf5(r:AF×Int)(l:LX)(pen:Pen):LQ:=if r.2≠0 then[] else(zaV l pen r.1 32).1
def zCx(r:AF×Int)(l:LX)(pen:Pen)(ht:r.1.le 100):CX 76 [.agg (afE r.1++[pr (r.2=0)]),.sl sgE l,ws pen] (.sl zk (zf5 r l pen)):=by
 refine zc func76<|Br.mk (λh=>by rw[show zf5 r l pen=[] from Xe h];exact zD) (λh=>?_);have e:zf5 r l pen=(zaV l pen r.1 32).1:=Xc h;refine wg (zyI l pen r.1 32 (ht.up dC)) ?_;rw[e];exact⟨λk=>by rw[zwG k];exact zD,λ_=>.refl⟩
def zwH(s:Sc)(i:Int)(ht:ji s):CX 40 [wq s,i64 i] (.sl zk (vT s i)):=by
 refine zc func40<|wg (zqs s i ht)<|⟨λh=>by rw[zs8 (.inl h)];exact zD,λc=>?_⟩;intro e;refine⟨λh=>by rw[zs8 (.inr oM)];exact zD,λd=>?_⟩;refine wg (zCx (kj s i) (zT s i).path (zT s i).pen (zaJ s i)) ?_;rw[show vT s i=zf5 (kj s i) (zT s i).path (zT s i).pen from Xc λk=>k.elim c λq=>d oM];exact .refl
def zjS{t:AF}:∀{q:LU},ja t q=0->∀p∈q,(ku t p).2=0
 |p::r,h,z,c=>by
  unfold ja at h
  by_cases k:(ku t p).2=0
  .rw[Xc (λq=>q k)]at h
   cases c with
   |head=>exact k
   |tail _ c=>exact zjS h z c
  rw[Xe k]at h;exact absurd h k
def zta{t:AF}{p:Pt}(h:(ku t p).2=0):zm (goP t p):=by
 unfold ku at h
 by_cases c:t.ok
 .rw[Xc (λk=>k c)]at h
  by_cases d:zm p
  .rw[Xc (λk=>k d)]at h
   by_cases e:zm (goP t p)
   .exact e
   rw[Xc e]at h;exact absurd h dC
  rw[Xe d]at h;exact absurd h dC
 rw[Xe c]at h;exact absurd h dC
def zuY{t:AF}(h:(trans t l).2=0):qU l/\(∀p∈qk l,(ku t p).2=0)/\(trans t l).1=l.map (zfX λp=>(ku t p).1):=by
 unfold trans at h ⊢
 by_cases d:¬qU l
 .rw[Xe d]at h;exact absurd h dC
 rw[Xc d]at h ⊢
 by_cases c:ja t (qk l)≠0
 .rw[Xe c]at h;exact absurd h c
 rw[Xc c];have e:qU l:=Xa.1 d;refine⟨e,zjS (Xa.1 c),?_⟩;exact KW λs g=>zou t (zlU (zbh.1 e).2 s g)
def zmE{c:LV}{d:Int}:∀{k j:Nat},j<k->c[j]?=some d->(j:Int)<=yE c d k
 |k+1,j,i,h=>by
  unfold yE
  split
  .omega
  rename_i g
  by_cases e:j=k
  .subst e;exact absurd h g
  exact zmE oM h
def ztb{e:LV}:∀(n k:Nat),k<n->∀a∈qN e k,a<=k
 |n+1,k,h,a,d=>by
  rw[jC]at d
  rcases XA.1 d with rfl|d
  .exact Xj _
  have i:=zfA e k
  rcases Qf (yn e k) 0 with c|c
  .rw[zbk c]at d;cases d
  obtain⟨j,g⟩:=Qw c;rw[g]at d;have:=ztb n j oM a d;omega
def zyQ{w:AF×Int}(h:uS w l≠[]):w.2=0/\(yx l w.1 32).2=0/\uS w l=(yx l w.1 32).1:=by
 unfold uS at h ⊢
 by_cases c:w.2≠0
 .rw[Xe c]at h;exact absurd rfl h
 rw[Xc c]at h ⊢;exact⟨Xa.1 c,Xa.1 λk=>h (zsW k),rfl⟩
def zyR{w:AF×Int}(h:zf5 w l pen≠[]):w.2=0/\(zaV l pen w.1 32).2=0/\zf5 w l pen=(zaV l pen w.1 32).1:=by
 unfold zf5 at h ⊢
 by_cases c:w.2≠0
 .rw[Xe c]at h;exact absurd rfl h
 rw[Xc c]at h ⊢;exact⟨Xa.1 c,Xa.1 λk=>h (zwG k),rfl⟩
def zCy(s:Sc)(i:Int):vT s i=if (zT s i).k≠2∨(zT s i).strk.length=0 then[] else zf5 (kj s i) (zT s i).path (zT s i).pen:=rfl
def zyS{t:AF}(h:(yx l t tol).2=0):kC (yx l t tol).1:=by
 have ht:(trans t l).2=0:=by
  refine Xa.1 λk=>?_
  unfold yx at h;rw[Xe k]at h;exact k h
 obtain⟨v1,p1,e⟩:=zuY ht
 obtain⟨j,g⟩:=zur (lo:=⟨-1048576,-1048576⟩) (hi:=⟨1048576,1048576⟩) h (λp c=>by
  rw[e,zD8]at c;obtain⟨z,d,rfl⟩:=XK.1 c;rw[zoJ (p1 z d)]
  exact zta (p1 z d))
 exact⟨oM,λr i p c=>g r i p c⟩
def zwI(f:Pt->Pt):∀rs:LQ,qh (rs.map (List.map f))=qh rs
 |[]=>rfl
 |r::rs=>by
  have c:=zwI f rs;unfold qh at c ⊢;simp only[Qu,Ji,Xv];rw[c]
def zyT{t:AF}(h:(yy rs t).2=0):kC (yy rs t).1:=by
 have e:=zuX h
 have i:kC rs/\zdS t rs=0:=by
  unfold yy at h
  by_cases k:kC rs
  .rw[kI k]at h
   by_cases q:zdS t rs=0
   .exact⟨k,q⟩
   rw[Xe q]at h;exact absurd h q
  rw[Xe k]at h;exact absurd h dC
 rw[e];refine⟨by rw[zwI];exact i.1.1,λr g p j=>?_⟩;obtain⟨n,d,rfl⟩:=XK.1 g;obtain⟨p0,c,rfl⟩:=XK.1 j;exact zta (zjd (zje i.2 n d) p0 c)
def zCz{t:AF}(h:(zaV l pen t tol).2=0):kC (zaV l pen t tol).1:=by
 unfold zaV at h ⊢
 by_cases g:¬kF pen
 .rw[Xe g]at h;exact absurd h dC
 rw[Xc g]at h ⊢
 by_cases c:(zY l tol).2≠0
 .rw[Xe c]at h;exact absurd h c
 rw[Xc c]at h ⊢
 by_cases d:(jX (zY l tol).1 pen).2≠0
 .rw[Xe d]at h;exact absurd h d
 rw[Xc d]at h ⊢
 by_cases e:(qz (jX (zY l tol).1 pen).1 pen).2≠0
 .rw[Xe e]at h;exact absurd h e
 rw[Xc e]at h ⊢;exact zyT h
def zbm:kC []:=⟨by show((0:Nat):Int)<=4096;decide,λr c=>by cases c⟩
def zjf(w:AF×Int)(l:LX):kC (uS w l):=by
 by_cases h:uS w l=[]
 .rw[h];exact zbm
 obtain⟨_,c,d⟩:=zyQ h;rw[d];exact zyS c
def zyU(w:AF×Int)(l:LX)(pen:Pen):kC (zf5 w l pen):=by
 by_cases h:zf5 w l pen=[]
 .rw[h];exact zbm
 obtain⟨_,c,d⟩:=zyR h;rw[d];exact zCz c
def zdw(s:Sc)(i:Int):∀l∈vg s i,kC l:=λl c=>by
 have h:l=vq s i∨l=vT s i∨l=zdu s i:=by simpa[vg] using c
 rcases h with rfl|rfl|rfl
 .unfold vq;split
  .exact zbm
  exact zjf _ _
 .rw[zCy];split
  .exact zbm
  exact zyU _ _ _
 unfold zdu;split
 .exact zbm
 exact zjf _ _
def zHW(p q:Pt)(c:zm p)(d:zm q):zm (mnP p q):=by unfold zm mnP at*;dsimp only;omega
def zHX(p q:Pt)(c:zm p)(d:zm q):zm (mxP p q):=by unfold zm mxP at*;dsimp only;omega
def zeN(h:zcS rs):zm (loR rs)/\zm (hiR rs):=by
 have c:∀r∈rs.flatten,zm r:=λp c=>by
  obtain⟨r,e,d⟩:=JL.1 c;exact h.2.2 r e p d
 unfold loR hiR;rw[Xe h,Xe h];exact⟨zA5 zHW c,zA5 zHX c⟩
def upI(n:Int):Int:=(n+256-1)/2^8
def p_up(n:Int)(h: -1048576<=n/\n<=1048576):CX 94 [i64 n] (i64 (upI n)):=by
 refine zc func94 ?_;(iterate 2 refine wa ?_);exact Ob.mk dC .refl
def zaX(rs:LQ):Rc:=⟨(loR rs).x/2^8,(loR rs).y/2^8,upI (hiR rs).x,upI (hiR rs).y⟩
def zbV(rs:LQ):Rc:=if¬zcS rs then qj else if (zaX rs).x1<=(zaX rs).x0∨(zaX rs).y1<=(zaX rs).y0 then qj else zaX rs
def zCA(h:zcS rs):(-1048576<=(hiR rs).x/\(hiR rs).x<=1048576)/\ -1048576<=(hiR rs).y/\(hiR rs).y<=1048576:=by
 have:=(zeN h).2;unfold zm at this;omega
def zHY(rs:LQ)(d:kC rs):CX 53 [.sl zk rs] (wr (zbV rs)):=by
 refine zc func53<|wg (zHU rs (by have:=d.1;omega))<|⟨λh=>uR (p:=qj) (Xe h).symm,λh=>?_⟩;have hi:=zCA (Xa.1 h);have c:zbV rs=if (zaX rs).x1<=(zaX rs).x0∨(zaX rs).y1<=(zaX rs).y0 then qj else zaX rs:=Xc h
 refine wd<|wb1<|wb1<|wg (p_up _ hi.1)<|wg (p_up _ hi.2)<|wh ?_;refine⟨λa=>uR (p:=qj) (by rw[c,Xe (.inl a)]),λa=>?_⟩;refine⟨λb=>uR (p:=qj) (by rw[c,Xe (.inr b)]),λb=>?_⟩;exact uR (p:=zaX rs) (by rw[c,Xc (λk=>k.elim a b)])
def zbW(a b:Rc):Rc:=if a.mt then b.canon else if b.mt then a else⟨min a.x0 b.x0,min a.y0 b.y0,max a.x1 b.x1,max a.y1 b.y1⟩
def zwJ(a b:Rc):CX 26 [wr a,wr b] (wr (zbW a b)):=by
 refine zc func26<|wg (zdr a)<|⟨λh=>?_,λh=>?_⟩
 .exact wg (zfy b)<|uR (Xe h).symm
 refine wg (zdr b)<|⟨λk=>?_,λk=>?_⟩
 .exact uR (by unfold zbW;rw[Xc h,Xe k])
 exact uR (p:=⟨min a.x0 b.x0,min a.y0 b.y0,max a.x1 b.x1,max a.y1 b.y1⟩) (by unfold zbW;rw[Xc h,Xc k])
def boxN(c:List LQ):Rc:=c.foldl (λb l=>zbW b (zbV l)) qj
def zao(s:Sc)(i:Int):Rc:=boxN (vg s i)
def zF9(l:LQ):LR:=[.sl zk l]
def zHZ(s:Sc)(i:Int)(ht:ji s):CX 25 [wq s,i64 i] (wr (zao s i)):=by
 have h:=zdw s i;refine zc func25<|wd<|wg (zwC s i ht)<|wg (zwH s i ht)<|wg (zCt s i ht)<|⟨LQ,zF9,vg s i,rfl,wb0 ?_⟩;intro j;refine wh<|⟨Nat,λn=>⟨[(19,i64 n),(18,i64 3),(17,.own 3),(5,.loc 2 0),(4,.loc 1 0)],[(3,.arr 88 zF9 1 (vg s i)),(2,.box 30 (rcE (boxN ((vg s i).take n)))),(1,.box 30 (rcE qj))],4,29,0⟩,λn=>n<=3,λn=>3-n,0,Xh _,?_,?_⟩
 .exact zB [(1,some 1),(2,some 2),(3,some 3)]
 rintro n c
 have c:n<=3:=c;refine⟨λg:(n:Int)<3=>?_,λg=>?_⟩
 .have e:0<=(n:Int)/\(n:Int)<(vg s i).length:=⟨oM,g⟩;refine Ob.mk e<|Ob.mk e λl(d:(vg s i)[n]?=some l)=>?_;refine wd<|wg (zHY l (h l (Xf d)))<|wg (zwJ (boxN ((vg s i).take n)) (zbV l))<|wh<|wa ?_
  exact⟨n+1,by show n+1<=3;omega,zdI [(1,some 1),(2,some 2),(3,some 3)] ⟨rfl,bR rcE (by unfold boxN;rw[Xn,d,KX];rfl),rfl,tV⟩,oN⟩
 obtain rfl:n=3:=by have g:¬(n:Int)<3:=g;omega
 exact .refl
def Rc.within(a b:Rc):Prop:=a.meet b=a.canon
instance instH20 (a b:Rc):Decidable (a.within b):=inferInstanceAs (Decidable (_=_))
inductive Qt where
 |leaf (a:Rc) (es:LV)
 |node (a:Rc) (es:LV) (p q r s:Qt)
def Qt.area:Qt->Rc
 |.leaf a _=>a
 |.node a _ _ _ _ _=>a
def Qt.ents:Qt->LV
 |.leaf _ es=>es
 |.node _ es _ _ _ _=>es
def Qt.all:Qt->LV
 |.leaf _ es=>es
 |.node _ es p q r s=>es++p.all++q.all++r.all++s.all
def Qt.find(z:Rc):Qt->LV
 |.leaf a es=>if (a.meet z).mt then[] else es
 |.node a es p q r s=>if (a.meet z).mt then[] else es++p.find z++q.find z++r.find z++s.find z
def Qt.push(i:Int):Qt->Qt
 |.leaf a es=>.leaf a (es++[i])
 |.node a es p q r s=>.node a (es++[i]) p q r s
def Qt.cut:Qt->Qt
 |.leaf a es=>.node a es (.leaf ⟨a.x0,a.y0,a.x0+(a.x1-a.x0)/2,a.y0+(a.y1-a.y0)/2⟩ []) (.leaf ⟨a.x0+(a.x1-a.x0)/2,a.y0,a.x1,a.y0+(a.y1-a.y0)/2⟩ [])
   (.leaf ⟨a.x0,a.y0+(a.y1-a.y0)/2,a.x0+(a.x1-a.x0)/2,a.y1⟩ []) (.leaf ⟨a.x0+(a.x1-a.x0)/2,a.y0+(a.y1-a.y0)/2,a.x1,a.y1⟩ [])
 |t=>t
def Qt.ins(i:Int)(b:Rc):Nat->Qt->Qt
 |0,t=>t.push i
 |n+1,t=>if t.area.area<=1 then t.push i else match t.cut with
  |.leaf a es=>.leaf a (es++[i])
  |.node a es p q r s=>if b.within p.area then .node a es (p.ins i b n) q r s else if b.within q.area then .node a es p (q.ins i b n) r s
   else if b.within r.area then .node a es p q (r.ins i b n) s else if b.within s.area then .node a es p q r (s.ins i b n) else .node a (es++[i]) p q r s
def Qt.good(B:Int->Rc):Qt->Prop
 |.leaf a es=>∀i∈es,(B i).within a
 |.node a es p q r s=>(∀i∈es++p.all++q.all++r.all++s.all,(B i).within a)/\p.good B/\q.good B/\r.good B/\s.good B
variable{B:Int->Rc}
def Qt.all_in{t:Qt}(h:t.good B):∀i∈t.all,(B i).within t.area:=by
 cases t with
 |leaf a es=>exact h
 |node a es p q r s=>exact h.1
variable{a:Rc}
def ztc{b z:Rc}(h:a.within b)(g:¬(a.meet z).mt):¬(b.meet z).mt:=by
 have c:¬a.mt:=λk=>g (by unfold Rc.meet;rw[Xe (.inl k)];exact uu)
 have d:¬z.mt:=λk=>g (by unfold Rc.meet;rw[Xe (.inr k)];exact uu)
 have i:¬b.mt:=λk=>c (by
  have e:a.meet b=a.canon:=h;unfold Rc.meet at e;rw[Xe (.inr k),Rc.canon_neg c]at e
  rw[←e];exact uu)
 have e:a.meet b=a.canon:=h;unfold Rc.meet at e g ⊢;rw[Xc (λk=>k.elim c i),Rc.canon_neg c]at e;rw[Xc (λk=>k.elim c d)]at g;rw[Xc (λk=>k.elim i d)];have o:¬Rc.mt ⟨max a.x0 b.x0,max a.y0 b.y0,min a.x1 b.x1,min a.y1 b.y1⟩:=λk=>c (by rw[Rc.canon_pos k]at e;rw[←e];exact uu)
 rw[Rc.canon_neg o]at e;have n:¬Rc.mt ⟨max a.x0 z.x0,max a.y0 z.y0,min a.x1 z.x1,min a.y1 z.y1⟩:=λk=>g (by rw[Rc.canon_pos k];exact uu)
 have t:=Rc.notmt n
 have s:max a.x0 b.x0=a.x0/\max a.y0 b.y0=a.y0/\min a.x1 b.x1=a.x1/\min a.y1 b.y1=a.y1:=by
  refine⟨?_,?_,?_,?_⟩
  .exact Xg Rc.x0 e
  .exact Xg Rc.y0 e
  .exact Xg Rc.x1 e
  exact Xg Rc.y1 e
 have nb:=Rc.notmt i;have nz:=Rc.notmt d;have na:=Rc.notmt c
 have j:¬Rc.mt ⟨max b.x0 z.x0,max b.y0 z.y0,min b.x1 z.x1,min b.y1 z.y1⟩:=by
  unfold Rc.mt Rc.ok zbb at*;dsimp only at*;omega
 rw[Rc.canon_neg j];exact j
def zyV{B:Int->Rc}{z:Rc}:∀{t:Qt},t.good B->(t.find z).filter (λi=>decide (¬((B i).meet z).mt))=t.all.filter λi=>decide (¬((B i).meet z).mt):=by
 have none:∀{t:Qt},t.good B->(t.area.meet z).mt->t.all.filter (λi=>decide (¬((B i).meet z).mt))=[]:=λ{t} h c=>by
  rw[List.filter_eq_nil_iff];intro i hi k;exact ztc (Qt.all_in h i hi) (of_decide_eq_true k) c
 intro t
 induction t with
 |leaf a es=>
  intro h;unfold Qt.find
  split
  .rename_i k;exact(none h k).symm
  rfl
 |node a es p q r s d e g j=>
  intro h;unfold Qt.find
  split
  .rename_i k;exact(none h k).symm
  unfold Qt.all;simp only[Km,d h.2.1,e h.2.2.1,g h.2.2.2.1,j h.2.2.2.2]
def Qt.cut_is(t:Qt):∃p q r s,t.cut=.node t.area t.ents p q r s/\t.cut.all=t.all:=by
 cases t with
 |leaf a es=>exact⟨_,_,_,_,rfl,by show es++[]++[]++[]++[]=es;simp⟩
 |node a es p q r s=>exact⟨_,_,_,_,rfl,rfl⟩
def Qt.cut_good{t:Qt}(h:t.good B):t.cut.good B:=by
 cases t with
 |leaf a es=>exact⟨λi hi=>h i (by simpa[Qt.all] using hi),(λ_ hi=>by cases hi),(λ_ hi=>by cases hi),(λ_ hi=>by cases hi),λ_ hi=>by cases hi⟩
 |node a es p q r s=>exact h
def zCB(i:Int)(b:Rc)(n:Nat)(t:Qt):(t.ins i b n).area=t.area:=by
 have c:(t.push i).area=t.area:=by cases t <;> rfl
 cases n with
 |zero=>exact c
 |succ n=>
  unfold Qt.ins
  split
  .exact c
  obtain⟨p,q,r,s,e,_⟩:=t.cut_is;rw[e];dsimp only
  repeat' split
  all_goals rfl
def zeO{i:Int}{x x' y z:LV}(h:x'.Perm (i::x)):(y++x'++z).Perm (i::(y++x++z)):=by
 refine((h.append_left y).append_right z).trans ?_;have:=(List.perm_middle (a:=i) (l₁:=y) (l₂:=x++z))
 simpa[XL] using this
def zhZ(i:Int)(t:Qt):(t.push i).all.Perm (i::t.all):=by
 cases t with
 |leaf a es=>exact JF (l₁:=es) (l₂:=[i])
 |node a es p q r s=>
  have h:(es++[i]).Perm (i::es):=JF (l₁:=es) (l₂:=[i]);have:=zeO (y:=[]) (z:=p.all++q.all++r.all++s.all) h
  simpa[Qt.push,Qt.all,XL] using this
def zdx(i:Int)(b:Rc):∀(n:Nat) (t:Qt),(t.ins i b n).all.Perm (i::t.all)
 |0,t=>zhZ i t
 |n+1,t=>by
  unfold Qt.ins
  split
  .exact zhZ i t
  obtain⟨p,q,r,s,e,c⟩:=t.cut_is;rw[←c,e];dsimp only
  split
  .have:=zeO (y:=t.ents) (z:=q.all++r.all++s.all) (zdx i b n p)
   simpa[Qt.all,XL] using this
  split
  .have:=zeO (y:=t.ents++p.all) (z:=r.all++s.all) (zdx i b n q)
   simpa[Qt.all,XL] using this
  split
  .have:=zeO (y:=t.ents++p.all++q.all) (z:=s.all) (zdx i b n r)
   simpa[Qt.all,XL] using this
  split
  .have:=zeO (y:=t.ents++p.all++q.all++r.all) (z:=[]) (zdx i b n s)
   simpa[Qt.all,XL] using this
  exact zhZ i (.node t.area t.ents p q r s)
def zoK{i:Int}{t:Qt}(h:t.good B)(hi:(B i).within t.area):(t.push i).good B:=by
 cases t with
 |leaf a es=>exact λj c=>(Xu.1 c).elim (h j) λk=>by rw[Xt.1 k];exact hi
 |node a es p q r s=>
  refine⟨λj c=>?_,h.2⟩
  rcases XA.1 ((zhZ i (.node a es p q r s)).mem_iff.1 c) with rfl|k
  .exact hi
  exact h.1 j k
def zeP{B:Int->Rc}{i:Int}:∀(n:Nat) {t:Qt},t.good B->(B i).within t.area->(t.ins i (B i) n).good B
 |0,t,h,hi=>zoK h hi
 |n+1,t,h,hi=>by
  have hall:=zdx i (B i) (n+1) t
  have c:∀j∈(t.ins i (B i) (n+1)).all,(B j).within t.area:=λj w=>by
   rcases XA.1 (hall.mem_iff.1 w) with rfl|k
   .exact hi
   exact Qt.all_in h j k
  revert c
  clear hall;unfold Qt.ins
  split
  .exact λ_=>zoK h hi
  obtain⟨p,q,r,s,e,y⟩:=t.cut_is;have v:=Qt.cut_good h;rw[e]at v ⊢;dsimp only;obtain⟨_,d,g,o,u⟩:=v
  split
  .rename_i k;exact λc=>⟨c,zeP n d k,g,o,u⟩
  split
  .rename_i k;exact λc=>⟨c,d,zeP n g k,o,u⟩
  split
  .rename_i k;exact λc=>⟨c,d,g,zeP n o k,u⟩
  split
  .rename_i k;exact λc=>⟨c,d,g,o,zeP n u k⟩
  exact λc=>⟨c,d,g,o,u⟩
def ztd{s:SV}{K:SV->Prop}(h:K s):vv s K:=by
 cases s with
 |val v=>cases v with
  |bool b=>cases b <;> exact h
  |_=>exact h
 |_=>exact h
def zmF:∀{l:LR} {K:LR->Prop},K l->zgO l K
 |[],_,h=>h
 |c::l,K,h=>by show vv c λc=>zgO l λr=>K (c::r);exact ztd (zmF (l:=l) (K:=λr=>K (c::r)) h)
def zuZ{m:Mem}{K:Mem->Prop}(h:K m):zj5 m K:=by
 cases m with
 |box T c=>exact zmF h
 |_=>exact h
def zte:∀{n:Nat} {K:LI},K n->zqO n K
 |0,_,h=>h
 |n+1,K,h=>show zqO n _ from zte (n:=n) (K:=λm=>K (m+1)) h
def zmG:∀{l:LT} {K:LT->Prop},K l->zgP l K
 |[],_,h=>h
 |(k,m)::l,K,h=>show zqO k _ from zte (zuZ (zmG (l:=l) (K:=λr=>K ((k,m)::r)) h))
def Qt.w:Qt->Nat
 |.leaf _ _=>1
 |.node _ _ p q r s=>6+p.w+q.w+r.w+s.w
def Qt.kidR(f:Nat->Nat):Qt->SV
 |.leaf _ _=>.val (.slice none 0 0)
 |.node _ _ _ _ _ _=>.own (f 2)
def shQ(f:Nat->Nat)(h b:Nat):Nat->Nat
 |0=>f h
 |x+1=>f (b+x)
def rbQ(f:Nat->Nat)(t:Qt):Mem:=.box 81 (rcE t.area++[.own (f 1),t.kidR f])
def zu0(f:Nat->Nat):Mem:=.garr 36 1 [[.loc (f 3) 0],[.loc (f 4) 0],[.loc (f 5) 0],[.loc (f 6) 0]]
def tlQ:Qt->(Nat->Nat)->LT
 |.leaf _ es,f=>[(f 1,.arr 3 zN 1 es)]
 |.node _ es p q r s,f=>(f 1,.arr 3 zN 1 es)::(f 2,zu0 f)::(f 3,rbQ (shQ f 3 7) p)::(f 4,rbQ (shQ f 4 (7+p.w)) q)::(f 5,rbQ (shQ f 5 (7+p.w+q.w)) r)::(f 6,rbQ (shQ f 6 (7+p.w+q.w+r.w)) s)::
   (tlQ p (shQ f 3 7)++tlQ q (shQ f 4 (7+p.w))++tlQ r (shQ f 5 (7+p.w+q.w))++tlQ s (shQ f 6 (7+p.w+q.w+r.w)))
def mdQ(t:Qt)(f:Nat->Nat):LT:=(f 0,rbQ f t)::tlQ t f
variable{es:LV}{p:Qt}{q:Qt}{r:Qt}{f:Nat->Nat}
def zmH{s:Qt}{x:Nat×Mem}:x∈mdQ (.node a es p q r s) f↔x=(f 0,rbQ f (.node a es p q r s))∨x=(f 1,.arr 3 zN 1 es)∨x=(f 2,zu0 f)∨
  x∈mdQ p (shQ f 3 7)∨x∈mdQ q (shQ f 4 (7+p.w))∨x∈mdQ r (shQ f 5 (7+p.w+q.w))∨x∈mdQ s (shQ f 6 (7+p.w+q.w+r.w)):=by
 simp only[mdQ,tlQ,XA,Xu,shQ];constructor
 .rintro(h|h|h|h|h|h|h|((h|h)|h)|h) <;> simp[h]
 rintro(h|h|h|(h|h)|(h|h)|(h|h)|(h|h)) <;> simp[h]
def zH0(g f:Nat->Nat)(h b:Nat):(λx=>g (shQ f h b x))=shQ (λx=>g (f x)) h b:=by
 funext x;cases x <;> rfl
def zyW(ks:LC)(Y:Nat)(A B:LT):yA ks Y (A++B)=yA ks Y A++yA ks Y B:=by
 induction A with
 |nil=>rfl
 |cons x A c=>exact Xg (List.cons _) c
def zCC(ks:LC)(Y:Nat)(f:Nat->Nat)(t:Qt):zig ks Y (rbQ f t)=rbQ (λx=>rn ks Y (f x)) t:=by
 cases t <;> rfl
def zmI(ks:LC)(Y:Nat):∀(t:Qt) (f:Nat->Nat),yA ks Y (tlQ t f)=tlQ t λx=>rn ks Y (f x)
 |.leaf _ _,_=>rfl
 |.node a es p q r s,f=>by
  unfold tlQ;simp only[yA,zyW,zmI ks Y p,zmI ks Y q,zmI ks Y r,zmI ks Y s,zCC,zH0];rfl
def zqu(ks:LC)(Y:Nat)(t:Qt)(f:Nat->Nat):yA ks Y (mdQ t f)=mdQ t λx=>rn ks Y (f x):=by
 unfold mdQ;rw[yA,zmI,zCC]
def zh0{f g:Nat->Nat}{h b n:Nat}(e:∀x,x<=b+n->f x=g x)(c:h<=b):∀x,x<=n+1->shQ f h b x=shQ g h b x:=by
 intro x d
 cases x with
 |zero=>exact e h oM
 |succ x=>exact e (b+x) oM
def zwK(t:Qt):∃n,t.w=n+1:=by
 cases t with
 |leaf a es=>exact⟨0,rfl⟩
 |node a es p q r s=>exact⟨5+p.w+q.w+r.w+s.w,by show 6+_+_+_+_=_;omega⟩
def uU:∀(t:Qt) {f g:Nat->Nat},(∀x,x<=t.w->f x=g x)->mdQ t f=mdQ t g
 |.leaf a es,f,g,h=>by
  unfold mdQ rbQ tlQ Qt.kidR;rw[h 0 (Xh _),h 1 (Xj _)]
 |.node a es p q r s,f,g,h=>by
  have c:∀x,x<=6+p.w+q.w+r.w+s.w->f x=g x:=h;obtain⟨o,E⟩:=zwK p;obtain⟨u,F⟩:=zwK q;obtain⟨v,G⟩:=zwK r;obtain⟨y,H⟩:=zwK s;have e:=uU p (f:=shQ f 3 7) (g:=shQ g 3 7) λx d=>zh0 (n:=o) (λx d=>c x oM) oM x oM
  have i:=uU q (f:=shQ f 4 (7+p.w)) (g:=shQ g 4 (7+p.w)) λx d=>zh0 (n:=u) (λx d=>c x oM) oM x oM
  have j:=uU r (f:=shQ f 5 (7+p.w+q.w)) (g:=shQ g 5 (7+p.w+q.w)) λx d=>zh0 (n:=v) (λx d=>c x oM) oM x oM
  have k:=uU s (f:=shQ f 6 (7+p.w+q.w+r.w)) (g:=shQ g 6 (7+p.w+q.w+r.w)) λx d=>zh0 (n:=y) (λx d=>c x oM) oM x oM
  unfold mdQ at e i j k;injection e with e z
  injection i with i A
  injection j with j C
  injection k with k D
  unfold mdQ rbQ tlQ Qt.kidR zu0;rw[z,A,C,D,(YP e).2,(YP i).2,(YP j).2,(YP k).2,c 0 oM,c 1 oM,c 2 oM,c 3 oM,c 4 oM,c 5 oM,c 6 oM]
def znk(f:Nat->Nat)(b n m:Nat):(List.range (n+m)).map (λx=>f (b+x))=(List.range n).map (λx=>f (b+x))++(List.range m).map λx=>f (b+n+x):=by
 rw[List.range_add,Xz,Yu];congr 1;exact KW λx _=>by show f (b+(n+x))=_;rw[KL]
def zh1:∀(t:Qt) (f:Nat->Nat),(tlQ t f).map (·.1)=(List.range t.w).map λx=>f (1+x)
 |.leaf _ _,_=>rfl
 |.node a es p q r s,f=>by
  show _=(List.range (6+p.w+q.w+r.w+s.w)).map λx=>f (1+x)
  unfold tlQ;have c:=zh1 p (shQ f 3 7);have d:=zh1 q (shQ f 4 (7+p.w));have g:=zh1 r (shQ f 5 (7+p.w+q.w));have i:=zh1 s (shQ f 6 (7+p.w+q.w+r.w));have e:∀(h b n:Nat),(List.range n).map (λx=>shQ f h b (1+x))=(List.range n).map λx=>f (b+x):=λh b n=>KW λx _=>by rw[Q6];rfl
  rw[e]at c d g i;simp only[Qu,Xz,c,d,g,i,znk];rw[show 1+(6+p.w)=7+p.w by omega,show 1+(6+p.w+q.w)=7+p.w+q.w by omega,show 1+(6+p.w+q.w+r.w)=7+p.w+q.w+r.w by omega];simp only[XL];rfl
def zh2(t:Qt)(f:Nat->Nat):(mdQ t f).map (·.1)=(List.range (t.w+1)).map f:=by
 unfold mdQ;rw[Qu,zh1,List.range_succ_eq_map,Qu,Yu];congr 1;exact KW λx _=>by show f (1+x)=f (x+1);rw[Q6]
def zdy{a n:Nat}(h:a<n):Nat.blt a n=true:=QZ h
def zCD{n:Nat}{t:Qt}(h:∀x,x<=t.w->f x<n):zqM n (rbQ f t)/\zxk n (rbQ f t):=by
 cases t with
 |leaf a es=>
  have c:=zdy (h 1 (Xj _));constructor
  .show(match Nat.blt (f 1) n with|true=>true|false=>false)=true;rw[c]
  show(match Nat.blt (f 1) n with|true=>true|false=>false)=true;rw[c]
 |node a es p q r s=>
  have e:∀x,x<=6+p.w+q.w+r.w+s.w->f x<n:=h;have c:=zdy (e 1 oM);have d:=zdy (e 2 oM);constructor
  .show(match Nat.blt (f 1) n with|true=>(match Nat.blt (f 2) n with|true=>true|false=>false)|false=>false)=true;rw[c,d]
  show(match Nat.blt (f 1) n with|true=>(match Nat.blt (f 2) n with|true=>true|false=>false)|false=>false)=true;rw[c,d]
def zeQ{n:Nat}:∀(t:Qt) {f:Nat->Nat},(∀x,x<=t.w->f x<n)->∀y∈mdQ t f,zqM n y.2/\zxk n y.2
 |.leaf a es,f,h,y,c=>by
  rcases XA.1 c with rfl|c
  .exact zCD h
  rw[Xt.1 c];exact⟨tV,tV⟩
 |.node a es p q r s,f,h,y,c=>by
  have e:∀x,x<=6+p.w+q.w+r.w+s.w->f x<n:=h
  have d:∀{g b m:Nat},g<=6->b+m<=7+p.w+q.w+r.w+s.w->∀x,x<=m->shQ f g b x<n:=λ{g b m} o k x i=>by
   cases x with
   |zero=>exact e g oM
   |succ x=>exact e (b+x) oM
  rcases zmH.1 c with rfl|rfl|rfl|c|c|c|c
  .exact zCD h
  .exact⟨tV,tV⟩
  .have b:∀j,j<=6->Nat.blt (f j) n=true:=λj u=>zdy (e j oM)
   constructor <;> intro x i <;> simp only[XA,XW,or_false]at i <;> rcases i with rfl|rfl|rfl|rfl <;> simp[uf.lows,uf,za4.outs,za4,b]
  .exact zeQ p (d oM oM) y c
  .exact zeQ q (d oM oM) y c
  .exact zeQ r (d oM oM) y c
  exact zeQ s (d oM oM) y c
def zoL:∀{l:LC},l.Nodup->v7 l=true
 |[],_=>rfl
 |x::r,h=>by
  have c:zm3 x r=false:=by
   cases e:zm3 x r with
   |false=>rfl
   |true=>exact absurd (zix e) (QV.1 h).1
  unfold v7;rw[c];exact zoL (QV.1 h).2
def ztf{n:Nat}:∀{l:LT},(∀y∈l,y.1<n)->zjs n l=true
 |[],_=>rfl
 |(k,m)::r,h=>by
  show yp (Nat.blt k n) (zjs n r)=true;rw[zdy (h _ (X0 ..)),ztf λy c=>h y (XR _ c)];rfl
def zoM{k:Nat}:∀{l:LT},zqN k l=true->k∈l.map (·.1)
 |(q,m)::r,h=>by
  unfold zqN at h
  split at h
  .rename_i e;rw[Xk e];exact X0 ..
  exact XR _ (zoM h)
def zoN:∀{l:LT},(l.map (·.1)).Nodup->zdU l=true
 |[],_=>rfl
 |(k,m)::r,h=>by
  have c:zqN k r=false:=by
   cases e:zqN k r with
   |false=>rfl
   |true=>exact absurd (zoM e) (QV.1 h).1
  unfold zdU;rw[c];exact zoN (QV.1 h).2
def ztg{d:LJ}{c:LC}{Y:Nat}{Mc:LT}:∀{ks:LC} {i:Nat},
  (∀q k,ks[q]?=some k->∃m,zO Mc (i+q)=some m/\d k=some (zig c Y m)/\zqM c.length m)->zeY d c Y Mc i ks
 |[],_,_=>trivial
 |k::r,i,h=>⟨h 0 k rfl,ztg λq k e=>by rw[show i+1+q=i+(q+1) by omega];exact h (q+1) k e⟩
def zwL{n:Nat}:∀{l:LT},(∀y∈l,y.1<n/\zxk n y.2)->zih n l
 |[],_=>trivial
 |(j,m)::r,h=>⟨⟨zdy (h _ (X0 ..)).1,(h _ (X0 ..)).2⟩,zwL λy c=>h y (XR _ c)⟩
def lab(t:Qt)(g:Nat->Nat):LC:=(List.range (t.w+1)).map g
def zav(t:Qt)(g:Nat->Nat):(lab t g).length=t.w+1:=by unfold lab;rw[Xv,Kk]
variable{x:Nat}
def zdz{t:Qt}{g:Nat->Nat}(h:x<=t.w):(lab t g)[x]?=some (g x):=by
 unfold lab;rw[XD,KV oM];rfl
def Inj(t:Qt)(g:Nat->Nat):Prop:=∀x y,x<=t.w->y<=t.w->g x=g y->x=y
def zjg{t:Qt}{g:Nat->Nat}(h:Inj t g):(lab t g).Nodup:=by
 unfold lab;rw[J8,Q0];refine(List.nodup_range (n:=t.w+1)).imp_of_mem λ{a b} d i c e=>c (h a b ?_ ?_ e)
 .have:=XV.1 d;omega
 have:=XV.1 i;omega
def zbR{t:Qt}{g:Nat->Nat}{y:Nat×Mem}(h:y∈mdQ t g):∃x,x<=t.w/\y.1=g x:=by
 have:y.1∈(mdQ t g).map (·.1):=JX h;rw[zh2]at this;obtain⟨x,c,e⟩:=XK.1 this;have:=XV.1 c;exact⟨x,oM,e.symm⟩
def zh3{t:Qt}{g:Nat->Nat}(h:Inj t g):(mdQ t g).Pairwise λa b=>a.1≠b.1:=by
 have:=zjg h;unfold lab at this;rw[←zh2,J8,Q0]at this;exact this
def zqv(t:Qt):Inj t id:=λ_ _ _ _ e=>e
def zoO{P:Program}{z:LJ}{Y:Nat}{f:FuncId}{args args':LR}{K:LD}{t n:Qt}{g o:Nat->Nat}{N:Nat}(inj:Inj t g)(C:∀y∈mdQ t g,z y.1=some y.2)(hN:∀x,x<=n.w->o x<t.w+1+N)(h:kL P f args' (mdQ t id) (.tup []) (mdQ n o))(A:LEs args (vr.rens (lab t g) Y args'))(D:uf.lows (t.w+1) args'=true)(k:K (.tup []) (.give (lab t g) (mdQ n λx=>rn (lab t g) Y (o x)) N)):zb P z Y f args K:=by
 have s:=zh2 t id;have E:=zh3 (zqv t)
 have e:yA (lab t g) Y (mdQ t id)=mdQ t g:=by
  rw[zqu];exact uU t λx j=>vE (zdz j)
 refine zb.give (lab t g) N args' (mdQ t id) (mdQ n o) (.tup []) h A (by rw[zav];exact D) (zoL (zjg inj)) ?_ (ztg λq k u=>?_) rfl (zwL λy c=>?_) ?_
 .have d:(mdQ t id).length=(lab t g).length:=by
   have:=Xg List.length s;rw[Xv]at this;rw[this,zav,Xv,Kk]
  rw[d,ztf λy c=>(by obtain⟨x,j,e⟩:=zbR c;rw[e,zav];show x<_;omega),zoN (by rw[s];exact zjg (zqv t))];show yp (Nat.beq _ _) (yp true true)=true;rw[KQ];rfl
 .have i:q<=t.w:=by
   have:=(Xd.1 u).1;rw[zav]at this;omega
  rw[zdz i]at u
  cases u
  have v:q∈(mdQ t id).map (·.1):=by rw[s];exact XK.2 ⟨q,XV.2 oM,rfl⟩
  obtain⟨y,c,ey⟩:=XK.1 v;obtain⟨F,m⟩:=y
  cases ey
  refine⟨m,by rw[Kb];exact ze6 E c,?_,?_⟩
  .have:=C _ (e ▸ zcs (ks:=lab t g) (Y:=Y) c)
   rwa [vE (zdz i)]at this
  rw[zav];exact(zeQ t (f:=id) (λx j=>by show x<_;omega) _ c).1
 .rw[zav];obtain⟨x,j,ex⟩:=zbR c;exact⟨by rw[ex];exact hN x j,(zeQ n hN y c).2⟩
 rw[zqu];exact zmG (ztd k)
def zqw{O:St}{M1:LT}(d:∀x∈M1,x∈O.M)(g:M1.Pairwise λa b=>a.1≠b.1):Sub O ⟨O.L,M1,O.nk,O.nt,O.n0⟩:=λE Z a w c=>by
 obtain⟨y,u⟩:=c.mem.let_go d g;have own:∀b,Own M1 Z b->Own O.M Z b:=λb ⟨k,m,v,j,n,o⟩=>⟨k,m,v,d _ j,n,o⟩
 exact⟨Z,c.size,c.defers,λt s i=>⟨(c.regs t s i).1,(c.regs t s i).2.mono (Xj _) (λb _ e=>⟨λh=>e (h.imp id (own b)),rfl⟩) (λb _ e=>⟨λh=>e (own b h),rfl⟩) λ_ _ h=>h⟩,u,c.fresh,c.stp.trans y,c.keep,c.low⟩
def Qt.kid:Qt->Nat->Qt
 |.node _ _ p _ _ _,0=>p
 |.node _ _ _ q _ _,1=>q
 |.node _ _ _ _ r _,2=>r
 |.node _ _ _ _ _ s,_=>s
 |t,_=>t
def Qt.base:Qt->Nat->Nat
 |.node _ _ _ _ _ _,0=>7
 |.node _ _ p _ _ _,1=>7+p.w
 |.node _ _ p q _ _,2=>7+p.w+q.w
 |.node _ _ p q r _,_=>7+p.w+q.w+r.w
 |_,_=>0
def Qt.put:Qt->Nat->Qt->Qt
 |.node a es _ q r s,0,t=>.node a es t q r s
 |.node a es p _ r s,1,t=>.node a es p t r s
 |.node a es p q _ s,2,t=>.node a es p q t s
 |.node a es p q r _,_,t=>.node a es p q r t
 |u,_,_=>u
def vU{s:Qt}{x:Nat×Mem}:x∈mdQ (.node a es p q r s) f↔x=(f 0,rbQ f (.node a es p q r s))∨x=(f 1,.arr 3 zN 1 es)∨x=(f 2,zu0 f)∨
  ∃i,i<4/\x∈mdQ ((Qt.node a es p q r s).kid i) (shQ f (3+i) ((Qt.node a es p q r s).base i)):=by
 rw[zmH];constructor
 .rintro(h|h|h|h|h|h|h)
  .exact .inl h
  .exact .inr (.inl h)
  .exact .inr (.inr (.inl h))
  .exact .inr (.inr (.inr ⟨0,oM,h⟩))
  .exact .inr (.inr (.inr ⟨1,oM,h⟩))
  .exact .inr (.inr (.inr ⟨2,oM,h⟩))
  exact .inr (.inr (.inr ⟨3,oM,h⟩))
 rintro(h|h|h|⟨i,hi,h⟩)
 .exact .inl h
 .exact .inr (.inl h)
 .exact .inr (.inr (.inl h))
 obtain rfl|rfl|rfl|rfl:i=0∨i=1∨i=2∨i=3:=by omega
 .exact .inr (.inr (.inr (.inl h)))
 .exact .inr (.inr (.inr (.inr (.inl h))))
 .exact .inr (.inr (.inr (.inr (.inr (.inl h)))))
 exact .inr (.inr (.inr (.inr (.inr (.inr h)))))
def zdA(a:Rc)(es:LV)(p q r s:Qt):∀i,i<4->7<=(Qt.node a es p q r s).base i/\(Qt.node a es p q r s).base i+((Qt.node a es p q r s).kid i).w<=(Qt.node a es p q r s).w+1/\
  ∀k,i<k->k<4->(Qt.node a es p q r s).base i+((Qt.node a es p q r s).kid i).w<=(Qt.node a es p q r s).base k:=by
 intro i hi;obtain rfl|rfl|rfl|rfl:i=0∨i=1∨i=2∨i=3:=oM
 all_goals
  refine⟨by simp only[Qt.base];omega,by simp only[Qt.base,Qt.kid,Qt.w];omega,λk c d=>?_⟩;obtain rfl|rfl|rfl:k=1∨k=2∨k=3:=oM
  all_goals simp only[Qt.base,Qt.kid] at*;omega
def zyX(a:Rc)(es:LV)(p q r s t:Qt):∀j,j<4->(∃c d e s',(Qt.node a es p q r s).put j t=.node a es c d e s')/\((Qt.node a es p q r s).put j t).w+((Qt.node a es p q r s).kid j).w=(Qt.node a es p q r s).w+t.w/\
  ∀i,i<4->(i=j->((Qt.node a es p q r s).put j t).kid i=t)/\(i≠j->((Qt.node a es p q r s).put j t).kid i=(Qt.node a es p q r s).kid i)/\(i<=j->((Qt.node a es p q r s).put j t).base i=(Qt.node a es p q r s).base i)/\
   (j<i->((Qt.node a es p q r s).put j t).base i+((Qt.node a es p q r s).kid j).w=(Qt.node a es p q r s).base i+t.w):=by
 intro j g;obtain rfl|rfl|rfl|rfl:j=0∨j=1∨j=2∨j=3:=oM
 all_goals
  refine⟨⟨_,_,_,_,rfl⟩,by simp only[Qt.put,Qt.kid,Qt.w];omega,λi hi=>?_⟩;obtain rfl|rfl|rfl|rfl:i=0∨i=1∨i=2∨i=3:=oM
  all_goals
   refine⟨λh=>?_,λh=>?_,λh=>?_,λh=>?_⟩
   all_goals first
    |exact absurd h oM
    |rfl
    |(simp only[Qt.put,Qt.kid,Qt.base];omega)
def zjh(b m n:Nat)(G:Nat->Nat)(x:Nat):Nat:=if x<b then x else if x<b+m then G (x-b+1) else x-m+n
variable{b:Nat}{m:Nat}
def zh4{n:Nat}{G:Nat->Nat}(h:x<b):zjh b m n G x=x:=Xe h
def zth{n:Nat}{G:Nat->Nat}(h:x<m):zjh b m n G (b+x)=G (x+1):=by
 unfold zjh;rw[Xc oM,Xe oM,show b+x-b+1=x+1 by omega]
def zwM{n:Nat}{G:Nat->Nat}(h:b+m<=x):zjh b m n G x=x-m+n:=by
 unfold zjh;rw[Xc oM,Xc oM]
def zyY{a:Rc}{es:LV}{p q r s U t o:Qt}{j b Y N:Nat}{g A:Nat->Nat}(hU:U=.node a es p q r s)(K:j<4)(ht:t=U.kid j)(O:b=U.base j)(W:g=shQ id (3+j) b)(hκ:U.w+1<=Y)(S:A 0=0)(inj:Inj o A)(hN:∀x,x<=o.w->A x<t.w+1+N):
  ∃F,F 0=0/\F 1=1/\Inj (U.put j o) F/\(∀x,x<=(U.put j o).w->F x<Y+N)/\∀y∈mdQ (U.put j o) F,y∈mdQ o (λx=>rn (lab t g) Y (A x))++jJ (mdQ U id) (lab t g):=by
 obtain⟨⟨p',q',r',s',e⟩,pw,pf⟩:=zyX a es p q r s o j K;have bf:=zdA a es p q r s;rw[←hU]at e pw pf bf;rw[←ht]at pw;obtain⟨Z,b2,M⟩:=bf j K;rw[←O,←ht]at b2 M;rw[←O]at Z;have gs:∀v,g (v+1)=b+v:=λv=>by rw[W];rfl
 have R:g 0=3+j:=by rw[W];rfl
 obtain⟨G,hG⟩:∃G:Nat->Nat,G=λx=>rn (lab t g) Y (A x):=⟨_,rfl⟩
 have G0:G 0=3+j:=by rw[hG];dsimp only;rw[S,vE (zdz (Xh _)),R]
 have Gx:∀x,1<=x->x<=o.w->(1<=A x/\A x<=t.w/\G x=b+(A x-1))∨(t.w<A x/\G x=Y+(A x-(t.w+1))):=λx T V=>by
  have hz:A x≠0:=λk=>by have:=inj x 0 V (Xh _) (k.trans S.symm);omega
  rcases Kf t.w (A x) with k|k
  .refine .inr ⟨k,?_⟩;rw[hG];dsimp only;rw[zc6 (by rw[zav];omega),zav]
  refine .inl ⟨oM,k,?_⟩;rw[hG];dsimp only;rw[vE (zdz k),show A x=(A x-1)+1 by omega,gs];omega
 rw[←hG];refine⟨zjh b o.w t.w G,zh4 oM,zh4 oM,λx y I P n=>?_,λx I=>?_,λy P=>?_⟩
 .unfold zjh at n;have q1:∀z,b<=z->z<b+o.w->_:=λz c d=>Gx (z-b+1) oM oM
  have q2:∀z H,b<=z->z<b+o.w->b<=H->H<b+o.w->A (z-b+1)=A (H-b+1)->z=H:=λz H c d c' d' k=>by
   have:=inj (z-b+1) (H-b+1) oM oM k;omega
  rcases Kf x b with c1|c1
  .rw[Xe c1]at n
   rcases Kf y b with u|u
   .rw[Xe u]at n;exact n
   rw[Xc oM]at n
   rcases Kf y (b+o.w) with C|C
   .rw[Xe C]at n;have:=q1 y u C;omega
   rw[Xc oM]at n;omega
  rw[Xc (show¬x<b by omega)]at n
  rcases Kf x (b+o.w) with J|J
  .rw[Xe J]at n;have Q:=q1 x c1 J
   rcases Kf y b with u|u
   .rw[Xe u]at n;omega
   rw[Xc oM]at n
   rcases Kf y (b+o.w) with C|C
   .rw[Xe C]at n;have:=q1 y u C;exact q2 x y c1 J u C oM
   rw[Xc oM]at n;omega
  rw[Xc (show¬x<b+o.w by omega)]at n
  rcases Kf y b with u|u
  .rw[Xe u]at n;omega
  rw[Xc oM]at n
  rcases Kf y (b+o.w) with C|C
  .rw[Xe C]at n;have:=q1 y u C;omega
  rw[Xc oM]at n;omega
 .rcases Kf x b with c1|c1
  .rw[zh4 c1];omega
  rcases Kf x (b+o.w) with u|u
  .rw[show x=b+(x-b) by omega,zth oM];have:=Gx (x-b+1) oM oM;have:=hN (x-b+1) oM;omega
  rw[zwM u];omega
 have out:∀k,k∈lab t g->k=3+j∨(b<=k/\k<b+t.w):=λk E=>by
  obtain⟨v,hv,rfl⟩:=XK.1 E;have:=XV.1 hv
  cases v with
  |zero=>exact .inl R
  |succ v=>rw[gs];exact .inr ⟨oM,oM⟩
 have old:∀k m,(k,m)∈mdQ U id->(k≠3+j/\(k<b∨b+t.w<=k))->(k,m)∈mdQ o G++jJ (mdQ U id) (lab t g):=λk m T V=>
  Kt _ (zka (zh3 (zqv U)) T λh=>by have:=out k h;omega)
 have D:∀x,x<7->zjh b o.w t.w G x=x:=λx I=>zh4 oM
 rw[e]at P
 rcases vU.1 P with rfl|rfl|rfl|⟨i,hi,E⟩
 .rw[D 0 oM,show rbQ (zjh b o.w t.w G) (.node a es p' q' r' s')=rbQ id U by rw[hU];unfold rbQ Qt.kidR;dsimp only[Qt.area];rw[D 1 oM,D 2 oM];rfl];exact old 0 _ (by rw[hU];exact vU.2 (.inl rfl)) oM
 .rw[D 1 oM];exact old 1 _ (by rw[hU];exact vU.2 (.inr (.inl rfl))) oM
 .rw[D 2 oM,show zu0 (zjh b o.w t.w G)=zu0 id by unfold zu0;rw[D 3 oM,D 4 oM,D 5 oM,D 6 oM];rfl];exact old 2 _ (by rw[hU];exact vU.2 (.inr (.inr (.inl rfl)))) oM
 rw[←e]at E;obtain⟨k1,k2,X,k4⟩:=pf i hi
 by_cases c:i=j
 .rw[k1 c,X oM,c,←O]at E;refine Kz _ ?_
  rwa [uU o (f:=shQ (zjh b o.w t.w G) (3+j) b) (g:=G) λx I=>?_]at E
  cases x with
  |zero=>exact(D (3+j) oM).trans G0.symm
  |succ x=>exact zth oM
 rw[k2 c]at E;obtain⟨c1,u,C⟩:=bf i hi
 have same:mdQ (U.kid i) (shQ (zjh b o.w t.w G) (3+i) ((U.put j o).base i))=mdQ (U.kid i) (shQ id (3+i) (U.base i)):=uU _ λx I=>by
  cases x with
  |zero=>exact D (3+i) oM
  |succ x=>
   show zjh b o.w t.w G ((U.put j o).base i+x)=U.base i+x
   rcases Kf i j with d|d
   .have:=C j d K;rw[X oM,zh4 oM]
   have Q:=k4 oM;have d2:=M i oM hi;rw[←ht]at Q;rw[zwM oM];omega
 rw[same]at E;obtain⟨L,m⟩:=y;refine old L m (by rw[hU]at E ⊢;exact vU.2 (.inr (.inr (.inr ⟨i,hi,E⟩)))) ?_;obtain⟨x,I,ex⟩:=zbR E;have ex:L=shQ id (3+i) (U.base i) x:=ex
 cases x with
 |zero=>
  have ex:L=3+i:=ex;omega
 |succ x=>
  have ex:L=U.base i+x:=ex
  rcases Kf i j with d|d
  .have:=C j d K;omega
  have d2:=M i oM hi;omega
def cl_S(q:LX)(d:q.length<=1000):CX 90 [.sl sgE q] (.sl sgE q):=by
 refine zc func90 ?_
 by_cases c:q=[]
 rotate_left;refine zcn.some (λh=>c (Xq h)) ?_;rotate_left;refine zcn.any (Br.mk (by subst c;exact zD) ?_)
 all_goals
  refine⟨Sg,sgE,[],rfl,wb2 ?_⟩;exact⟨q,rfl,Ob.mk ⟨(by show _*(56:Int)<=_;simp only[Xo];omega),(by simp only[Xo];omega),dC,λ_ _=>rfl⟩ .refl⟩
def cl_I(q:LV)(d:q.length<=1000):CX 67 [.sl zN q] (.sl zN q):=by
 refine zc func67 ?_
 by_cases c:q=[]
 rotate_left;refine zcn.some (λh=>c (Xq h)) ?_;rotate_left;refine zcn.any (Br.mk (by subst c;exact zD) ?_)
 all_goals
  refine⟨Int,zN,[],rfl,wb2 ?_⟩;exact⟨q,rfl,Ob.mk ⟨(by show _*(8:Int)<=_;simp only[Xo];omega),(by simp only[Xo];omega),dC,λ_ _=>rfl⟩ .refl⟩
def cl_X(q:List Pix)(d:q.length<=1000):CX 92 [.sl zcl q] (.sl zcl q):=by
 refine zc func92 ?_
 by_cases c:q=[]
 rotate_left;refine zcn.some (λh=>c (Xq h)) ?_;rotate_left;refine zcn.any (Br.mk (by subst c;exact zD) ?_)
 all_goals
  refine⟨Pix,zcl,[],rfl,wb2 ?_⟩;exact⟨q,rfl,Ob.mk ⟨(by show _*(4:Int)<=_;simp only[Xo];omega),(by simp only[Xo];omega),dC,λ_ _=>rfl⟩ .refl⟩
def cl_T(q:List zgH)(d:q.length<=1000):CX 143 [.sl zbN q] (.sl zbN q):=by
 refine zc func143 ?_
 by_cases c:q=[]
 rotate_left;refine zcn.some (λh=>c (Xq h)) ?_;rotate_left;refine zcn.any (Br.mk (by subst c;exact zD) ?_)
 all_goals
  refine⟨zgH,zbN,[],rfl,wb2 ?_⟩;exact⟨q,rfl,Ob.mk ⟨(by show _*(16:Int)<=_;simp only[Xo];omega),(by simp only[Xo];omega),dC,λ_ _=>rfl⟩ .refl⟩
def cl_P(q:LY)(d:q.length<=1000):CG0 142 [.sl qD q] [] (.own 0) [(0,.arr 72 qD 40 q)]:=by
 refine qf tok mix func142 rfl rfl rfl ?_
 by_cases c:q=[]
 rotate_left;refine zcn.some (λh=>c (Xq h)) ?_;rotate_left;refine zcn.any (Br.mk ⟨none,.nil rfl,c⟩ ?_)
 all_goals
  refine⟨Pnt,qD,[],rfl,wb2 ?_⟩;exact⟨q,rfl,Ob.mk ⟨(by show _*(520:Int)<=_;simp only[Xo];omega),(by simp only[Xo];omega),dC,λ_ _=>rfl⟩ ⟨some 1,.own _ rfl,rfl,λ_ _=>rfl⟩⟩
def zaY(a:BI)(h:a.mag.length<=1000000):CX 141 [wl a] (wl a):=by
 exact zc func141<|wd<|wg (zpz a.mag oM)<|wh<|.refl
def zmJ:LN:=[[.loc 0 0],[.loc 0 4],[.loc 0 8],[.loc 0 12],[.loc 0 16],[.loc 0 20]]
def zti:∀(i:Nat) x,zmJ[i]?=some x->∃x',zmJ[i]?=some x'/\ren.rens [(0,some 0),(1,some 1),(2,some 2)] x=some x':=λi x h=>⟨x,h,by
 have:=Xf h;simp only[zmJ,XA,XW,or_false]at this
 rcases this with rfl|rfl|rfl|rfl|rfl|rfl <;> rfl⟩
def zu1(t:AF)(h:t.le 1000000):CX 89 [wo t] (wo t):=by
 have big:∀q:BR,q.len<=1000000->q.num.mag.length<=1000000/\q.den.mag.length<=1000000:=λq k=>by unfold BR.len at k;omega
 obtain⟨n,o,s,u,v,w⟩:=h;refine zc func89<|⟨zmJ,rfl,Ob.mk ⟨rfl,dC,dC,dC,λx j=>?_⟩ ?_⟩
 .simp only[zmJ,XA,XW,or_false]at j
  rcases j with rfl|rfl|rfl|rfl|rfl|rfl <;> rfl
 intro A;refine⟨Nat,λi=>⟨[(13,i64 i),(12,i64 6),(11,.own 2),(2,.loc 1 0),(1,.loc 0 0)],[(2,.garr 173 1 zmJ),(1,.box 51 um),(0,.box 51 (afE t))],3,32,0⟩,λi=>i<=6,λi=>6-i,0,Xh _,zt [0,1,2] ⟨⟨_,rfl,rfl,zti⟩,rfl,rfl,tV⟩,?_⟩
 rintro i hi
 have hi:i<=6:=hi;refine⟨λg=>?_,λg=>.refl⟩;have g:(i:Int)<6:=g;refine Ob.mk (show 0<=(i:Int)/\(i:Int)<6 by omega)<|Ob.mk (show 0<=(i:Int)/\(i:Int)<6 by omega) λx(j:zmJ[i]?=some x)=>?_;have y:i=0∨i=1∨i=2∨i=3∨i=4∨i=5:=oM;obtain⟨k,z⟩:∃k,i+1=k:=⟨_,rfl⟩
 rcases y with rfl|rfl|rfl|rfl|rfl|rfl
 all_goals
  cases j
  refine wd ?_
  first|refine zb.to _ (zaY t.a.num (big _ n).1) rfl (zb.to _ (zaY t.a.den (big _ n).2) rfl ?_)|refine zb.to _ (zaY t.b.num (big _ o).1) rfl (zb.to _ (zaY t.b.den (big _ o).2) rfl ?_)|refine zb.to _ (zaY t.c.num (big _ s).1) rfl (zb.to _ (zaY t.c.den (big _ s).2) rfl ?_)|
   refine zb.to _ (zaY t.d.num (big _ u).1) rfl (zb.to _ (zaY t.d.den (big _ u).2) rfl ?_)|refine zb.to _ (zaY t.e.num (big _ v).1) rfl (zb.to _ (zaY t.e.den (big _ v).2) rfl ?_)|refine zb.to _ (zaY t.f.num (big _ w).1) rfl (zb.to _ (zaY t.f.den (big _ w).2) rfl ?_)
  refine wh<|Ar.fit dC<|⟨k,oM,?_,oN⟩;subst z;exact zt [0,1,2] ⟨⟨_,rfl,rfl,zti⟩,rfl,rfl,tV⟩
def zCE{α:Type _}{l:List α}{i:Nat}{x:α}(h:l[i]?=some x):l.set i x=l:=by
 obtain⟨d,c⟩:=Xd.1 h;rw[←c,List.set_getElem_self]
def zfD(l:LY)(k:l.length<=1000)(o:∀p∈l,ltP p):CX 91 [.sl qD l] (.sl qD l):=by
 refine zc func91<|zb.fresh _ _ (cl_P l k) rfl (λ_ _=>rfl) (.inl rfl) λn=>?_;refine⟨Nat,λi=>⟨[(10,i64 i),(9,i64 l.length),(3,.own 0)],[(0,.arr 72 qD 40 l)],1,44,0⟩,λi=>i<=l.length,λi=>l.length-i,0,Xh _,zf [0],?_⟩
 intro i hi;have hi:i<=l.length:=hi;refine⟨λg=>?_,λg=>.refl⟩;have g:(i:Int)<l.length:=g;obtain⟨p,h⟩:∃p,l[i]?=some p:=⟨_,Xb oM⟩;obtain⟨j,s,u⟩:=o p (Xf h);have e:=zCE h;have d:0<=(i:Int)/\(i:Int)<l.length:=oM;refine Ob.mk d ?_;have get:∀z,l[(i:Int).toNat]?=some z->z=p:=λz c=>Xl ((show l[i]?=some z from c).symm.trans h)
 refine wd<|Ob.mk d λz c=>?_;rw[get z c];refine wg (cl_T p.st oM)<|Ob.mk d λz c=>?_;rw[get z c];refine wg (cl_X p.im.px oM)<|Ob.mk d λz c=>?_;rw[get z c];refine wg (zu1 p.t (j.up dC))<|Ob.mk d λz c=>?_;rw[get z c];refine⟨p,rfl,?_⟩;rw[show l.set (i:Int).toNat p=l from e];refine Ob.mk d λz c=>?_;rw[get z c];refine⟨p,rfl,?_⟩;rw[show l.set (i:Int).toNat p=l from e];refine Ob.mk d λz c=>?_;rw[get z c];refine⟨p,rfl,?_⟩
 rw[show l.set (i:Int).toNat p=l from e];exact wh<|wa<|⟨i+1,by show i+1<=l.length;omega,zf [0],oN⟩
def zE9(n:Nd)(h:ltN n):CX 52 [ww n] (ww n):=by
 obtain⟨⟨i,j,k,o,g,s,u⟩,e⟩:=h;refine zc func52<|wg (zu1 n.t (g.up dC))<|wd<|wg (cl_S n.clip oM)<|wg (cl_S n.path oM)<|wh ?_;refine wd<|wg (zfD n.fill oM λp c=>e p (Kz _ c))<|wg (zfD n.strk oM λp c=>e p (Kt _ c))<|wh<|wd<|wg (cl_I n.pen.d oM) ?_;exact wg (cl_X n.im.px oM)<|wh<|.refl
def zCF(s:Sc)(j:s.ns.length<=1000)(h:∀n∈s.ns,ltN n):CX 24 [wq s] (wq s):=by
 refine zc func24 λe=>?_;refine⟨Nat,λi=>⟨[(11,i64 i),(10,i64 s.ns.length),(9,.sl ndE s.ns),(3,.loc 2 0),(2,.loc 1 0)],[(3,nArr (s.ns.take i)),(2,.box 26 (scO s 3)),(1,.box 26 (vals [.int .i64 0,.int .i64 0,.int .u8 0,.int .u8 0,.int .u8 0,.int .u8 0,.slice none 0 0]))],4,24,0⟩,λi=>i<=s.ns.length,λi=>s.ns.length-i,0,Xh _,zB [(1,some 1),(2,some 2),(3,none)],?_⟩
 intro i hi;have hi:i<=s.ns.length:=hi;refine⟨λg:(i:Int)<s.ns.length=>?_,λg:¬(i:Int)<s.ns.length=>?_⟩
 .refine wb λn(c:s.ns[i]?=some n)=>?_;refine wd<|wg (zE9 n (h n (Xf c)))<|⟨Nd,ndE,[n],rfl,wb3 ?_⟩;have d:(s.ns.take i).length<=1000:=by rw[Xp];omega
  refine⟨[n],rfl,Ob.mk ⟨by show(((s.ns.take i).length:Int)+1)*_<=_;dsimp only;omega,by show(s.ns.take i).length+1<=_;omega,dC,λx c=>by rw[Xt.1 c];rfl⟩ ?_⟩;exact wh<|wa<|⟨i+1,by show i+1<=_;omega,zdI [(1,some 1),(2,some 2),(3,some 6)] ⟨Xg (λq=>some (nArr q)) (by rw[Xn,c];rfl),rfl,rfl,tV⟩,oN⟩
 exact jk (.C (.C (.C (.C (.C (.C (.cons (z6 (Xi oM)) .nil)))))))
end Go.Gs
