/- Bounds of polygons; the anchor of a node, the program's. -/
import Derived.Test.YtakicgnbhdpknaaGreatDoorPBL
set_option maxRecDepth 100000
set_option maxHeartbeats 8000000
set_option linter.all false
namespace Go.Gs
open Proofs.Tryz
open Go.Proofs
def zEk(xs:LU):zgv (.arr 28 ptE 2 xs):=λ_ _=>rfl
def zEl(n:Int)(a:0<=n)(b:n<=4096):CG0 196 [nS,i64 n] [] (.own 0) [(0,.arr 28 ptE 2 [])]:=by
 refine qA tok mix func196 rfl rfl rfl<|Br.mk (λh=>absurd h oM) (λ_=>?_);refine Ar.fit dC<|wa<|Br.mk (λh=>?_) (λh=>?_)
 .refine Ob.mk ⟨rfl,rfl,rfl⟩<|⟨Pt,ptE,zp,rfl,Ob.mk ⟨dC,h,(by show _*(16:Int)<=_;omega),oM⟩ ?_⟩;refine Sl.keep (Ob.mk ⟨rfl,K9 _,oM⟩ ?_);exact⟨some 1,.own _ rfl,rfl,λ_ _=>rfl⟩
 exact⟨none,.nil rfl,rfl⟩
variable{rs:LQ}
def zoj{i:Nat}{x:LU}(h:rs[i]?=some x):(rs.take (i+1)).flatten=(rs.take i).flatten++x:=by
 rw[Xm,h];simp
def zsE(rs:LQ):rs.flatten.length=qe rs:=by unfold qe;rw[List.length_flatten]
def zyd(rs:LQ)(m:qe rs<=4096):CG0 131 [.sl zk rs] [] (.own 0) [(0,.arr 28 ptE 2 rs.flatten)]:=by
 refine qA tok mix func131 rfl rfl rfl λd=>?_;refine⟨Nat,λi=>⟨[(11,i64 i),(10,i64 rs.length),(9,.sl zk rs),(3,i64 (qe (rs.take i):Int)),(0,.sl zk rs)],[],0,36,0⟩,λi=>i<=rs.length,λi=>rs.length-i,0,Xh _,zC [],?_⟩;intro i hi;have hi:i<=rs.length:=hi;refine⟨λg:(i:Int)<rs.length=>?_,λg:¬(i:Int)<rs.length=>?_⟩
 .refine wb λx(a:rs[i]?=some x)=>?_;have e:=vi a;have:=zas rs (i+1);intro f;refine wa<|Br.mk (λh=>absurd h oM) (λ_=>?_);exact wa<|⟨i+1,by show i+1<=_;omega,jo [] ⟨rfl,rfl,rfl,iR (by rw[e];omega),rfl,tV⟩ trivial,oN⟩
 have c:rs.take i=rs:=Xi oM;refine zb.fresh _ _ (zEl (qe (rs.take i):Int) oM (by rw[c];omega)) rfl (zEk _) (.inl rfl) λk=>?_;refine⟨Nat,λi=>⟨[(27,i64 i),(26,i64 rs.length),(25,.sl zk rs),(6,.own 0)],[(0,.arr 28 ptE 2 (rs.take i).flatten)],1,36,0⟩,λi=>i<=rs.length,λi=>rs.length-i,0,Xh _,zf [0],?_⟩;intro j b;have b:j<=rs.length:=b;refine⟨λg:(j:Int)<rs.length=>?_,λg:¬(j:Int)<rs.length=>?_⟩
 .refine wb λx(a:rs[j]?=some x)=>?_;have e:=vi a;have n:=zas rs (j+1);have o:=zsE (rs.take j);refine⟨x,rfl,Ob.mk ⟨(by show((rs.take j).flatten.length+x.length:Int)*(16:Int)<=_;omega),oM,dC,λ_ _=>rfl⟩ ?_⟩;exact wa<|⟨j+1,by show j+1<=_;omega,zt [1] ⟨aR (zoj a).symm,tV⟩,oN⟩
 exact⟨some 0,.own _ rfl,aR (by rw[Xi (show rs.length<=j by omega)]),λ_ _=>rfl⟩
def zcK(rs:LQ):Prop:=rs.flatten≠[]/\kB rs
instance (rs:LQ):Decidable (zcK rs):=wi
def loR(rs:LQ):Pt:=if zcK rs then bnd mnP rs.flatten else zp
def hiR(rs:LQ):Pt:=if zcK rs then bnd mxP rs.flatten else zp
def pbE(rs:LQ):SV:=.tup [wk (loR rs),wk (hiR rs),pr (zcK rs)]
def zBS(h:¬zcK rs):LE (.tup [.agg [i64 0,i64 0],.agg [i64 0,i64 0],bl false]) (pbE rs):=by
 unfold pbE loR hiR;rw[Xc h,Xc h];exact zaP (.C (.C (.cons (zd h) .nil)))
def zG3(rs:LQ)(v:qe rs<=4096):CX 95 [.sl zk rs] (pbE rs):=by
 refine zc func95<|wg ((zyd rs v).plain rfl) ?_;generalize d:rs.flatten=q;have G:q.length<=4096:=by rw[←d,zsE];exact v
 intro E;refine⟨λh=>zBS λk=>k.1 (by rw[d];exact Xp oM),λA=>?_⟩;refine wg (zha rs λr H=>?_) ?_
 .obtain⟨j,D,e⟩:=Ks H;have J:=vi (rs:=rs) (i:=j) (Xb D);have K:=zas rs (j+1);rw[e]at J;omega
 refine⟨λh=>zBS λk=>h k.2,λm=>?_⟩;have m:kB rs:=Xa.1 m;have a:q≠[]:=λk=>A (by rw[k];rfl)
 have n:zcK rs:=⟨by rw[d];exact a,m⟩
 obtain⟨p0,L,c⟩:∃p t,q=p::t:=by
  cases q with
  |nil=>exact absurd rfl a
  |cons p t=>exact⟨p,t,rfl⟩
 have b:q[0]?=some p0:=by rw[c];rfl
 refine wd<|wb λx o=>?_;have o:x=p0:=Xl ((show q[0]?=some x from o).symm.trans b);rw[o];refine wb λy s=>?_;have s:y=p0:=Xl ((show q[0]?=some y from s).symm.trans b);rw[s];refine wh λF=>?_
 refine⟨Nat,λi=>⟨[(30,i64 i),(29,i64 q.length),(28,.sl ptE q),(7,.loc 3 0),(6,.loc 2 0),(3,.loc 1 0),(2,.loc 0 0)],
  [(3,.box 28 (ptE ((q.take i).foldl mxP p0))),(2,.box 28 (ptE ((q.take i).foldl mnP p0))),(1,.box 28 (ptE zp)),(0,.box 28 (ptE zp))],4,59,0⟩,
  λi=>i<=q.length,λi=>q.length-i,0,Xh _,?_,?_⟩
 .exact zf [0,1,2,3]
 intro i hi;have hi:i<=q.length:=hi;refine⟨λg:(i:Int)<q.length=>?_,λg:¬(i:Int)<q.length=>?_⟩
 .refine wb λz(I:q[i]?=some z)=>?_;have e:∀f:Pt->Pt->Pt,(q.take (i+1)).foldl f p0=f ((q.take i).foldl f p0) z:=λf=>by rw[Xm,I,KT];rfl
  refine wa ?_
  exact⟨i+1,by show i+1<=_;omega,qI [(0,some 0),(1,some 1),(2,some 2),(3,some 3)] rfl rfl rfl ⟨rfl,rfl,rfl,rfl,rfl,rfl,rfl,tV⟩
   ⟨bR ptE (e mxP).symm,bR ptE (e mnP).symm,rfl,rfl,tV⟩,oN⟩
 have w:q.take i=q:=Xi oM;refine wd<|wh ?_
 have u:∀f:Pt->Pt->Pt,(q.take i).foldl f p0=bnd f rs.flatten:=λf=>by
  rw[w,d];unfold bnd;rw[c];rfl
 rw[u,u];unfold pbE loR hiR;rw[Xe n,Xe n];exact zaP (.C (.C (.cons (zH n) .nil)))
def vd(s:Sc)(i:Int):List LQ:=[vn s i,vO s i,zdl s i]
variable{i:Int}
def zsF{s:Sc}(h:(zS s i).k≠2∨(zS s i).strk.length=0):vO s i=[]:=Xe h
def zmh(t:AF):List BR:=[t.a,t.b,t.c,t.d,t.e,t.f]
def zv5(t:AF)(n:Nat):t.le n↔∀x∈zmh t,x.len<=n:=by
 unfold zmh AF.le;simp
instance instLe51 (t:AF) (n:Nat):Decidable (t.le n):=wi
def zv6(t:AF):CX 22 [wo t] (pr (t.le 12)):=by
 refine zc func22<|⟨BR,brE,zmh t,rfl,wb0 ?_⟩;refine⟨Nat,λi=>⟨[(3,.own 0),(4,i64 i)],[(0,.arr 55 brE 4 (zmh t))],1,42,0⟩,λi=>i<=(zmh t).length/\∀x∈(zmh t).take i,x.len<=12,λi=>(zmh t).length-i,0,⟨Xh _,λx a=>by cases a⟩,zf [1],?_⟩
 rintro i ⟨n,d⟩
 intro f;refine⟨λg:(i:Int)<(zmh t).length=>?_,λg:¬(i:Int)<(zmh t).length=>?_⟩
 .refine wb<|wb λx(a:(zmh t)[i]?=some x)=>?_;have no:¬x.len<=12->¬t.le 12:=λh k=>h ((zv5 t 12).1 k x (Xf a))
  intro j;refine⟨λb:(12:Int)<x.num.mag.length=>?_,λb:¬(12:Int)<x.num.mag.length=>?_⟩
  .exact zd (no (by unfold BR.len;omega))
  refine wb<|wb λx' e=>?_;have ex:x'=x:=Xl ((show(zmh t)[i]?=some x' from e).symm.trans a);rw[ex];intro m;refine⟨λc:(12:Int)<x.den.mag.length=>?_,λc:¬(12:Int)<x.den.mag.length=>?_⟩
  .exact zd (no (by unfold BR.len;omega))
  exact wa<|⟨i+1,⟨oM,yu a d (by unfold BR.len;omega)⟩,zf [0],oN⟩
 rw[Xi oM]at d;exact zH ((zv5 t 12).2 d)
instance (lo hi p:Pt):Decidable (inB lo hi p):=wi
def q_one:((1:Int):Rat)=1:=rfl
def q_zero:((0:Int):Rat)=0:=rfl
variable{p:Pt}
def zok{t:AF}(h:(ku t p).2=0):(ku t p).1=goP t p:=by
 unfold ku at h ⊢
 by_cases a:t.ok
 .rw[kI a]at h ⊢
  by_cases b:zm p
  .rw[kI b]at h ⊢
   by_cases c:zm (goP t p)
   .rw[Xe c]
   rw[Xc c]at h;exact absurd h dC
  rw[Xe b]at h;exact absurd h dC
 rw[Xe a]at h;exact absurd h dC
def ziT{t:AF}:∀{l:LU},zdK t l=0->∀p∈l,(ku t p).2=0
 |p::r,h,q,a=>by
  unfold zdK at h
  by_cases k:(ku t p).2=0
  .rw[qK k]at h
   cases a with
   |head=>exact k
   |tail _ a=>exact ziT h q a
  rw[Xe k]at h;exact absurd h k
def ziU{t:AF}:∀{l:LQ},zdL t l=0->∀r∈l,zdK t r=0
 |p::r,h,q,a=>by
  unfold zdL at h
  by_cases k:zdK t p=0
  .rw[qK k]at h
   cases a with
   |head=>exact k
   |tail _ a=>exact ziU h q a
  rw[Xe k]at h;exact absurd h k
def zus{t:AF}(h:(yr rs t).2=0):(yr rs t).1=rs.map (List.map (goP t)):=by
 unfold yr at h ⊢
 by_cases k:kB rs
 .rw[kI k]at h ⊢
  by_cases e:zdL t rs=0
  .rw[qK e];refine KR λr b=>KR λp a=>?_
   exact zok (ziT (ziU e r b) p a)
  rw[Xe e]at h;exact absurd h e
 rw[Xe k]at h;exact absurd h dC
def LEs.d:∀{us bs:LR},LEs us bs->yd.flats bs=true->qZ us bs
 |[],[],_,_=>.nil
 |_::_,b::bs,.cons h t,a=>by
  have c:yd b=true/\yd.flats bs=true:=by
   have a:(match yd b with|true=>yd.flats bs|false=>false)=true:=a
   cases c:yd b with
   |true=>rw[c]at a;exact⟨rfl,a⟩
   |false=>rw[c]at a;cases a
  exact .cons (λS w v e=>uV c.1 (h S (λ_=>False) (λ_=>none) w v (.d _ _ e))) (LEs.d t c.2)
def pc1:LR:=i64 1::u8 0::u8 0::u8 0::u8 0::i64 0::i64 0::i64 0::i64 0::i64 0::nil1::i64 0::i64 0::i64 0::nil1::i64 0::uh
def uE(_:Unit):LR:=pc1
def zBT:LR:=[i64 0,i64 0,i64 0,i64 0,nS,i64 0,nS,i64 0,i64 0,nS,i64 0]
def zEm:LEs zBT (jg ⟨0,0,0,0,[],0⟩++(.sl yG []::(zlY ⟨0,0,[]⟩++[i64 0]))):=
 .C (.C (.C (.C (.cons zD (.C (.cons zD (.C (.C (.cons zD (.C .nil))))))))))
def zG4:LEs pc1 (yG (za2 1)):=
 .C (.C (.C (.C (.C (.C (.C (.C (.C (.C (.cons zD (.C (.C (.C (.cons zD (.C zl1)))))))))))))))
def ltP(p:Pnt):Prop:=p.t.le 12/\p.st.length<=30/\p.im.px.length<=300
instance (p:Pnt):Decidable (ltP p):=wi
def ltN(n:Nd):Prop:=(n.path.length<=24/\n.clip.length<=24/\n.pen.d.length<=20/\n.im.px.length<=300/\n.t.le 12/\n.fill.length<=3/\n.strk.length<=3)/\∀p∈n.fill++n.strk,ltP p
instance (n:Nd):Decidable (ltN n):=wi
def ltS(s:Sc):Prop:=¬(8<s.ns.length/\s.ns.length<=64)/\∀n∈s.ns.take 65,ltN n
instance (s:Sc):Decidable (ltS s):=wi
def zj9{s:Sc}(h:ltS s):jd s:=λu n b=>by
 have b:ltN n:=h.2 n (by rw[Xi oM];exact b);obtain⟨⟨g,j,k,m,c,o,r⟩,e⟩:=b
 have a:∀p∈n.fill++n.strk,p.t.le 1000/\p.im.px.length<=9223372036854775807:=λp a=>by
  obtain⟨d,_,f⟩:=e p a;exact⟨d.up dC,oM⟩
 exact⟨c.up dC,⟨c.up dC,λp q=>a p (KZ _ q),λp q=>a p (KS _ q),oM⟩,oM,oM⟩
def zsG(s:Sc):CX 7 [wq s] (pr (ltS s)):=by
 refine zc func7 λI=>?_;refine⟨λv=>?_,λv=>?_⟩
 all_goals first
  |(intro J;refine⟨λy=>zd λk=>k.1 ⟨oM,oM⟩,λy=>?_⟩;have z:¬(8<s.ns.length/\s.ns.length<=64):=λk=>y (by have:=k.2;omega))
  |have z:¬(8<s.ns.length/\s.ns.length<=64):=λk=>v (by have:=k.1;omega)
 all_goals
  refine⟨Nat,λi=>⟨[(3,i64 i),(1,.loc 0 0)],[(0,.box 26 (scE s))],1,114,0⟩,λi=>i<=(s.ns.take 65).length/\∀n∈(s.ns.take 65).take i,ltN n,λi=>(s.ns.take 65).length-i,0,⟨Xh _,λn f=>by cases f⟩,zf [0],?_⟩
  have M:(s.ns.take 65).length=min 65 s.ns.length:=Xo
  rintro i ⟨h1,A⟩
  have fin:¬((i:Int)<s.ns.length/\(i:Int)<=64)->LE (bl true) (pr (ltS s)):=λh=>zH ⟨z,λn f=>A n (by rw[Xi oM];exact f)⟩
  intro K;refine⟨λg=>?_,λg=>fin λk=>g k.1⟩;have g:(i:Int)<s.ns.length:=g;refine⟨λe=>?_,λe=>fin λk=>e k.2⟩;have e:(i:Int)<=64:=e;refine wb λx(N:s.ns[i]?=some x)=>?_;have c:(s.ns.take 65)[i]?=some x:=by rw[XK,Xe oM];exact N
  have bad:¬ltN x->LE (bl false) (pr (ltS s)):=λh=>zd λk=>h (k.2 x (Xf c))
  intro O;refine⟨λk=>bad λq=>by have:=q.1.1;omega,λV=>?_⟩;intro Q;refine⟨λk=>bad λq=>by have:=q.1.2.1;omega,λW=>?_⟩;intro R;refine⟨λk=>bad λq=>by have:=q.1.2.2.1;omega,λX=>?_⟩;intro S;refine⟨λk=>bad λq=>by have:=q.1.2.2.2.1;omega,λY=>?_⟩;refine wg (zv6 x.t)<|⟨λk=>bad λq=>k q.1.2.2.2.2.1,λE=>?_⟩;intro T;refine⟨λk=>bad λq=>by have:=q.1.2.2.2.2.2.1;omega,λZ=>?_⟩;intro U
  refine⟨λk=>bad λq=>by have:=q.1.2.2.2.2.2.2;omega,λb7=>?_⟩
  have u:x.path.length<=24/\x.clip.length<=24/\x.pen.d.length<=20/\x.im.px.length<=300/\x.t.le 12/\x.fill.length<=3/\x.strk.length<=3:=
   ⟨oM,oM,oM,oM,Xa.1 E,oM,oM⟩
  refine wd<|⟨Pnt,yG,[],rfl,wb2 ?_⟩;refine⟨x.fill,rfl,Ob.mk ⟨by show(((0:Nat):Int)+(x.fill.length:Int))*_<=_;dsimp only;omega,by show 0+x.fill.length<=_;omega,dC,λ_ _=>rfl⟩ ?_⟩;refine⟨x.strk,rfl,Ob.mk ⟨by show((([]++x.fill:LY).length:Int)+(x.strk.length:Int))*_<=_;rw[QF];dsimp only;omega,by rw[QF];omega,dC,λ_ _=>rfl⟩ ?_⟩;refine wh ?_;rw[QF];generalize hP:x.fill++x.strk=P;have hPl:P.length<=6:=by rw[←hP,Xq];omega
  refine⟨Nat,λj=>⟨[(6,i64 j),(5,.own 2),(4,.loc 1 0),(3,i64 i),(1,.loc 0 0)],[(2,.arr 70 yG 40 P),(1,.box 66 (ndE x)),(0,.box 26 (scE s))],3,114,0⟩,λj=>j<=P.length/\∀p∈P.take j,ltP p,λj=>P.length-j,0,⟨Xh _,λp b=>by cases b⟩,zf [0,1,4],?_⟩
  rintro j ⟨j1,r⟩
  intro c0;refine⟨λq:(j:Int)<P.length=>?_,λq:¬(j:Int)<P.length=>?_⟩
  .refine wb<|wb λp(b:P[j]?=some p)=>?_;have L:p∈x.fill++x.strk:=by rw[hP];exact Xf b
   have badp:¬ltP p->LE (bl false) (pr (ltS s)):=λh=>bad λk=>h (k.2 p L)
   refine wg (zv6 p.t)<|⟨λk=>badp λw=>k w.1,λF=>?_⟩;refine wb<|wb λC m=>?_;have G:C=p:=Xl ((show P[j]?=some C from m).symm.trans b);rw[G];intro c1;refine⟨λk=>badp λw=>by have:=w.2.1;omega,λd2=>?_⟩;refine wb<|wb λD o=>?_;have H:D=p:=Xl ((show P[j]?=some D from o).symm.trans b);rw[H];intro c2;refine⟨λk=>badp λw=>by have:=w.2.2;omega,λd3=>?_⟩;refine wa ?_
   have okp:ltP p:=⟨Xa.1 F,oM,oM⟩;refine⟨j+1,⟨oM,λw a=>?_⟩,zf [0,1,2],oN⟩;rw[Xm,b]at a
   rcases Xt.1 a with a|a
   .exact r w a
   rw[show w=p by simpa using a];exact okp
  rw[Xi oM]at r;refine wa<|⟨i+1,⟨oM,λw a=>?_⟩,zf [0],oN⟩;rw[Xm,c]at a
  rcases Xt.1 a with a|a
  .exact A w a
  rw[show w=x by simpa using a];exact⟨u,by rw[hP];exact r⟩
def zBU{t:AF}(h:(yr rs t).2≠0):(yr rs t).1=[]:=by
 unfold yr at h ⊢
 by_cases a:¬kB rs
 .rw[Xe a]
 rw[Xc a]at h ⊢
 by_cases b:zdL t rs≠0
 .rw[Xe b]
 rw[Xc b]at h;exact absurd rfl h
variable{l:LX}{pen:Pen}{tol:Int}
def zv7{t:AF}(h:(zaU l pen t tol).2≠0):(zaU l pen t tol).1=[]:=by
 unfold zaU at h ⊢
 by_cases a:¬kE pen
 .rw[Xe a]
 rw[Xc a]at h ⊢
 by_cases b:(zY l tol).2≠0
 .rw[Xe b]
 rw[Xc b]at h ⊢
 by_cases c:(jT (zY l tol).1 pen).2≠0
 .rw[Xe c]
 rw[Xc c]at h ⊢
 by_cases d:(qw (jT (zY l tol).1 pen).1 pen).2≠0
 .rw[Xe d]
 rw[Xc d]at h ⊢;exact zBU h
def zfQ(r:AF×Int)(l:LX)(pen:Pen):LQ:=if r.2≠0 then[] else(zaU l pen r.1 32).1
def zBV(r:AF×Int)(l:LX)(pen:Pen)(ht:r.1.le 100):CX 82 [.agg (afE r.1++[pr (r.2=0)]),.sl sgE l,ws pen] (.sl zk (zfQ r l pen)):=by
 refine zc func82<|Br.mk (λh=>by rw[show zfQ r l pen=[] from Xe h];exact zD) (λh=>?_);have e:zfQ r l pen=(zaU l pen r.1 32).1:=Xc h;refine wg (zx6 l pen r.1 32 (ht.up dC)) ?_;rw[e];exact⟨λk=>by rw[zv7 k];exact zD,λ_=>.refl⟩
def zv8(s:Sc)(i:Int)(ht:jd s):CX 46 [wq s,i64 i] (.sl zk (vO s i)):=by
 refine zc func46<|wg (zp2 s i ht)<|⟨λh=>by rw[zsF (.inl h)];exact zD,λa=>?_⟩;intro c;refine⟨λh=>by rw[zsF (.inr oM)];exact zD,λb=>?_⟩;refine wg (zBV (kj s i) (zS s i).path (zS s i).pen (zaH s i)) ?_;rw[show vO s i=zfQ (kj s i) (zS s i).path (zS s i).pen from Xc λk=>k.elim a λq=>b oM];exact .refl
def zjy{t:AF}:∀{q:LU},qX t q=0->∀p∈q,(ku t p).2=0
 |p::r,h,z,a=>by
  unfold qX at h
  by_cases k:(ku t p).2=0
  .rw[Xc (λq=>q k)]at h
   cases a with
   |head=>exact k
   |tail _ a=>exact zjy h z a
  rw[Xe k]at h;exact absurd h k
def zsH{t:AF}(h:(ku t p).2=0):zm (goP t p):=by
 unfold ku at h
 by_cases a:t.ok
 .rw[Xc (λk=>k a)]at h
  by_cases b:zm p
  .rw[Xc (λk=>k b)]at h
   by_cases c:zm (goP t p)
   .exact c
   rw[Xc c]at h;exact absurd h dC
  rw[Xe b]at h;exact absurd h dC
 rw[Xe a]at h;exact absurd h dC
def zut{t:AF}(h:(trans t l).2=0):valid l/\(∀p∈qh l,(ku t p).2=0)/\(trans t l).1=l.map (zfI λp=>(ku t p).1):=by
 unfold trans at h ⊢
 by_cases b:¬valid l
 .rw[Xe b]at h;exact absurd h dC
 rw[Xc b]at h ⊢
 by_cases a:qX t (qh l)≠0
 .rw[Xe a]at h;exact absurd h a
 rw[Xc a];have c:valid l:=Xa.1 b;refine⟨c,zjy (Xa.1 a),?_⟩;exact KR λs d=>zn5 t (zly (zbe.1 c).2 s d)
def zmi{a:LV}{d:Int}:∀{k j:Nat},j<k->a[j]?=some d->(j:Int)<=yA a d k
 |k+1,j,c,h=>by
  unfold yA
  split
  .omega
  rename_i b
  by_cases e:j=k
  .subst e;exact absurd h b
  exact zmi oM h
def zsI{d:LV}:∀(n k:Nat),k<n->∀a∈qH d k,a<=k
 |n+1,k,f,a,b=>by
  rw[jy]at b
  rcases XH.1 b with rfl|b
  .exact Xj _
  have g:=zfn d k
  rcases Qe (yl d k) 0 with c|c
  .rw[zbh c]at b;cases b
  obtain⟨j,e⟩:=Qu c;rw[e]at b;have:=zsI n j oM a b;omega
def zye{w:AF×Int}(h:uO w l≠[]):w.2=0/\(yq l w.1 32).2=0/\uO w l=(yq l w.1 32).1:=by
 unfold uO at h ⊢
 by_cases c:w.2≠0
 .rw[Xe c]at h;exact absurd rfl h
 rw[Xc c]at h ⊢;exact⟨Xa.1 c,Xa.1 λk=>h (zst k),rfl⟩
def zyf{w:AF×Int}(h:zfQ w l pen≠[]):w.2=0/\(zaU l pen w.1 32).2=0/\zfQ w l pen=(zaU l pen w.1 32).1:=by
 unfold zfQ at h ⊢
 by_cases c:w.2≠0
 .rw[Xe c]at h;exact absurd rfl h
 rw[Xc c]at h ⊢;exact⟨Xa.1 c,Xa.1 λk=>h (zv7 k),rfl⟩
def zBW(s:Sc)(i:Int):vO s i=if (zS s i).k≠2∨(zS s i).strk.length=0 then[] else zfQ (kj s i) (zS s i).path (zS s i).pen:=rfl
def zyg{t:AF}(h:(yq l t tol).2=0):kB (yq l t tol).1:=by
 have ht:(trans t l).2=0:=by
  refine Xa.1 λk=>?_
  unfold yq at h;rw[Xe k]at h;exact k h
 obtain⟨v1,p1,c⟩:=zut ht
 obtain⟨f,d⟩:=ztW (lo:=⟨-1048576,-1048576⟩) (hi:=⟨1048576,1048576⟩) h (λp a=>by
  rw[c,zDm]at a;obtain⟨z,b,rfl⟩:=XN.1 a;rw[zok (p1 z b)]
  exact zsH (p1 z b))
 exact⟨oM,λr e p a=>d r e p a⟩
def zv9(f:Pt->Pt):∀rs:LQ,qe (rs.map (List.map f))=qe rs
 |[]=>rfl
 |r::rs=>by
  have a:=zv9 f rs;unfold qe at a ⊢;simp only[Qr,Jd,Xw];rw[a]
def zyh{t:AF}(h:(yr rs t).2=0):kB (yr rs t).1:=by
 have e:=zus h
 have d:kB rs/\zdL t rs=0:=by
  unfold yr at h
  by_cases k:kB rs
  .rw[kI k]at h
   by_cases q:zdL t rs=0
   .exact⟨k,q⟩
   rw[Xe q]at h;exact absurd h q
  rw[Xe k]at h;exact absurd h dC
 rw[e];refine⟨by rw[zv9];exact d.1.1,λr c p f=>?_⟩;obtain⟨g,b,rfl⟩:=XN.1 c;obtain⟨p0,a,rfl⟩:=XN.1 f;exact zsH (ziT (ziU d.2 g b) p0 a)
def zBX{t:AF}(h:(zaU l pen t tol).2=0):kB (zaU l pen t tol).1:=by
 unfold zaU at h ⊢
 by_cases d:¬kE pen
 .rw[Xe d]at h;exact absurd h dC
 rw[Xc d]at h ⊢
 by_cases a:(zY l tol).2≠0
 .rw[Xe a]at h;exact absurd h a
 rw[Xc a]at h ⊢
 by_cases b:(jT (zY l tol).1 pen).2≠0
 .rw[Xe b]at h;exact absurd h b
 rw[Xc b]at h ⊢
 by_cases c:(qw (jT (zY l tol).1 pen).1 pen).2≠0
 .rw[Xe c]at h;exact absurd h c
 rw[Xc c]at h ⊢;exact zyh h
def zbj:kB []:=⟨by show((0:Nat):Int)<=4096;decide,λr a=>by cases a⟩
def ziV(w:AF×Int)(l:LX):kB (uO w l):=by
 by_cases h:uO w l=[]
 .rw[h];exact zbj
 obtain⟨_,a,b⟩:=zye h;rw[b];exact zyg a
def zyi(w:AF×Int)(l:LX)(pen:Pen):kB (zfQ w l pen):=by
 by_cases h:zfQ w l pen=[]
 .rw[h];exact zbj
 obtain⟨_,a,b⟩:=zyf h;rw[b];exact zBX a
def zdn(s:Sc)(i:Int):∀l∈vd s i,kB l:=λl a=>by
 have h:l=vn s i∨l=vO s i∨l=zdl s i:=by simpa[vd] using a
 rcases h with rfl|rfl|rfl
 .unfold vn;split
  .exact zbj
  exact ziV _ _
 .rw[zBW];split
  .exact zbj
  exact zyi _ _ _
 unfold zdl;split
 .exact zbj
 exact ziV _ _
def zG5(p q:Pt)(a:zm p)(b:zm q):zm (mnP p q):=by unfold zm mnP at*;dsimp only;omega
def zG6(p q:Pt)(a:zm p)(b:zm q):zm (mxP p q):=by unfold zm mxP at*;dsimp only;omega
def zeF(h:zcK rs):zm (loR rs)/\zm (hiR rs):=by
 have a:∀r∈rs.flatten,zm r:=λp a=>by
  obtain⟨r,c,b⟩:=JH.1 a;exact h.2.2 r c p b
 unfold loR hiR;rw[Xe h,Xe h];exact⟨zAt zG5 a,zAt zG6 a⟩
def upI(n:Int):Int:=(n+256-1)/2^8
def p_up(n:Int)(h: -1048576<=n/\n<=1048576):CX 96 [i64 n] (i64 (upI n)):=by
 refine zc func96 ?_;(iterate 2 refine wa ?_);exact Ob.mk dC .refl
def zaW(rs:LQ):Rc:=⟨(loR rs).x/2^8,(loR rs).y/2^8,upI (hiR rs).x,upI (hiR rs).y⟩
def zbQ(rs:LQ):Rc:=if¬zcK rs then qp else if (zaW rs).x1<=(zaW rs).x0∨(zaW rs).y1<=(zaW rs).y0 then qp else zaW rs
def zBY(h:zcK rs):(-1048576<=(hiR rs).x/\(hiR rs).x<=1048576)/\ -1048576<=(hiR rs).y/\(hiR rs).y<=1048576:=by
 have:=(zeF h).2;unfold zm at this;omega
def zG7(rs:LQ)(d:kB rs):CX 57 [.sl zk rs] (wr (zbQ rs)):=by
 refine zc func57<|wg (zG3 rs (by have:=d.1;omega))<|⟨λh=>uN (p:=qp) (Xe h).symm,λh=>?_⟩;have hi:=zBY (Xa.1 h);have c:zbQ rs=if (zaW rs).x1<=(zaW rs).x0∨(zaW rs).y1<=(zaW rs).y0 then qp else zaW rs:=Xc h
 refine wd<|wb1<|wb1<|wg (p_up _ hi.1)<|wg (p_up _ hi.2)<|wh ?_;refine⟨λa=>uN (p:=qp) (by rw[c,Xe (.inl a)]),λa=>?_⟩;refine⟨λb=>uN (p:=qp) (by rw[c,Xe (.inr b)]),λb=>?_⟩;exact uN (p:=zaW rs) (by rw[c,Xc (λk=>k.elim a b)])
def zbR(a b:Rc):Rc:=if a.mt then b.canon else if b.mt then a else⟨min a.x0 b.x0,min a.y0 b.y0,max a.x1 b.x1,max a.y1 b.y1⟩
def zwa(a b:Rc):CX 33 [wr a,wr b] (wr (zbR a b)):=by
 refine zc func33<|wg (zdi a)<|⟨λh=>?_,λh=>?_⟩
 .exact wg (zfl b)<|uN (Xe h).symm
 refine wg (zdi b)<|⟨λk=>?_,λk=>?_⟩
 .exact uN (by unfold zbR;rw[Xc h,Xe k])
 exact uN (p:=⟨min a.x0 b.x0,min a.y0 b.y0,max a.x1 b.x1,max a.y1 b.y1⟩) (by unfold zbR;rw[Xc h,Xc k])
def boxN(a:List LQ):Rc:=a.foldl (λb l=>zbR b (zbQ l)) qp
def zan(s:Sc)(i:Int):Rc:=boxN (vd s i)
def zFk(l:LQ):LR:=[.sl zk l]
def zG8(s:Sc)(i:Int)(ht:jd s):CX 32 [wq s,i64 i] (wr (zan s i)):=by
 have d:=zdn s i;refine zc func32<|wd<|wg (zv4 s i ht)<|wg (zv8 s i ht)<|wg (zBQ s i ht)<|⟨LQ,zFk,vd s i,rfl,wb0 ?_⟩;intro e;refine wh<|⟨Nat,λn=>⟨[(19,i64 n),(18,i64 3),(17,.own 3),(5,.loc 2 0),(4,.loc 1 0)],[(3,.arr 94 zFk 1 (vd s i)),(2,.box 47 (rcE (boxN ((vd s i).take n)))),(1,.box 47 (rcE qp))],4,29,0⟩,λn=>n<=3,λn=>3-n,0,Xh _,?_,?_⟩
 .exact zC [(1,some 1),(2,some 2),(3,some 3)]
 rintro n a
 have a:n<=3:=a;refine⟨λg:(n:Int)<3=>?_,λg=>?_⟩
 .have c:0<=(n:Int)/\(n:Int)<(vd s i).length:=⟨oM,g⟩;refine Ob.mk c<|Ob.mk c λl(b:(vd s i)[n]?=some l)=>?_;refine wd<|wg (zG7 l (d l (Xf b)))<|wg (zwa (boxN ((vd s i).take n)) (zbQ l))<|wh<|wa ?_
  exact⟨n+1,by show n+1<=3;omega,zdy [(1,some 1),(2,some 2),(3,some 3)] ⟨rfl,bR rcE (by unfold boxN;rw[Xm,b,KT];rfl),rfl,tV⟩,oN⟩
 obtain rfl:n=3:=by have g:¬(n:Int)<3:=g;omega
 exact .refl
def Rc.within(a b:Rc):Prop:=a.meet b=a.canon
instance instH20 (a b:Rc):Decidable (a.within b):=inferInstanceAs (Decidable (_=_))
inductive Qt where
 |leaf (a:Rc) (es:LV)
 |node (a:Rc) (es:LV) (p q r s:Qt)
def Qt.area:Qt->Rc
 |.leaf a _=>a
 |.node a _ _ _ _ _=>a
def Qt.ents:Qt->LV
 |.leaf _ a=>a
 |.node _ a _ _ _ _=>a
def Qt.all:Qt->LV
 |.leaf _ a=>a
 |.node _ a p q r s=>a++p.all++q.all++r.all++s.all
def Qt.find(z:Rc):Qt->LV
 |.leaf a b=>if (a.meet z).mt then[] else b
 |.node a b p q r s=>if (a.meet z).mt then[] else b++p.find z++q.find z++r.find z++s.find z
def Qt.push(i:Int):Qt->Qt
 |.leaf a b=>.leaf a (b++[i])
 |.node a b p q r s=>.node a (b++[i]) p q r s
def Qt.cut:Qt->Qt
 |.leaf a b=>.node a b (.leaf ⟨a.x0,a.y0,a.x0+(a.x1-a.x0)/2,a.y0+(a.y1-a.y0)/2⟩ []) (.leaf ⟨a.x0+(a.x1-a.x0)/2,a.y0,a.x1,a.y0+(a.y1-a.y0)/2⟩ [])
   (.leaf ⟨a.x0,a.y0+(a.y1-a.y0)/2,a.x0+(a.x1-a.x0)/2,a.y1⟩ []) (.leaf ⟨a.x0+(a.x1-a.x0)/2,a.y0+(a.y1-a.y0)/2,a.x1,a.y1⟩ [])
 |t=>t
def Qt.ins(i:Int)(b:Rc):Nat->Qt->Qt
 |0,t=>t.push i
 |n+1,t=>if t.area.area<=1 then t.push i else match t.cut with
  |.leaf a c=>.leaf a (c++[i])
  |.node a c p q r s=>if b.within p.area then .node a c (p.ins i b n) q r s else if b.within q.area then .node a c p (q.ins i b n) r s
   else if b.within r.area then .node a c p q (r.ins i b n) s else if b.within s.area then .node a c p q r (s.ins i b n) else .node a (c++[i]) p q r s
def Qt.good(B:Int->Rc):Qt->Prop
 |.leaf a b=>∀i∈b,(B i).within a
 |.node a b p q r s=>(∀i∈b++p.all++q.all++r.all++s.all,(B i).within a)/\p.good B/\q.good B/\r.good B/\s.good B
variable{B:Int->Rc}
def Qt.all_in{t:Qt}(h:t.good B):∀i∈t.all,(B i).within t.area:=by
 cases t with
 |leaf a b=>exact h
 |node a b p q r s=>exact h.1
def zsJ{a b z:Rc}(h:a.within b)(f:¬(a.meet z).mt):¬(b.meet z).mt:=by
 have c:¬a.mt:=λk=>f (by unfold Rc.meet;rw[Xe (.inl k)];exact uo)
 have d:¬z.mt:=λk=>f (by unfold Rc.meet;rw[Xe (.inr k)];exact uo)
 have g:¬b.mt:=λk=>c (by
  have e:a.meet b=a.canon:=h;unfold Rc.meet at e;rw[Xe (.inr k),Rc.canon_neg c]at e
  rw[←e];exact uo)
 have e:a.meet b=a.canon:=h;unfold Rc.meet at e f ⊢;rw[Xc (λk=>k.elim c g),Rc.canon_neg c]at e;rw[Xc (λk=>k.elim c d)]at f;rw[Xc (λk=>k.elim g d)];have n:¬Rc.mt ⟨max a.x0 b.x0,max a.y0 b.y0,min a.x1 b.x1,min a.y1 b.y1⟩:=λk=>c (by rw[Rc.canon_pos k]at e;rw[←e];exact uo)
 rw[Rc.canon_neg n]at e;have m:¬Rc.mt ⟨max a.x0 z.x0,max a.y0 z.y0,min a.x1 z.x1,min a.y1 z.y1⟩:=λk=>f (by rw[Rc.canon_pos k];exact uo)
 have q:=Rc.notmt m
 have o:max a.x0 b.x0=a.x0/\max a.y0 b.y0=a.y0/\min a.x1 b.x1=a.x1/\min a.y1 b.y1=a.y1:=by
  refine⟨?_,?_,?_,?_⟩
  .exact Xg Rc.x0 e
  .exact Xg Rc.y0 e
  .exact Xg Rc.x1 e
  exact Xg Rc.y1 e
 have nb:=Rc.notmt g;have nz:=Rc.notmt d;have na:=Rc.notmt c
 have j:¬Rc.mt ⟨max b.x0 z.x0,max b.y0 z.y0,min b.x1 z.x1,min b.y1 z.y1⟩:=by
  unfold Rc.mt Rc.ok za8 at*;dsimp only at*;omega
 rw[Rc.canon_neg j];exact j
def zyj{B:Int->Rc}{z:Rc}:∀{t:Qt},t.good B->(t.find z).filter (λi=>decide (¬((B i).meet z).mt))=t.all.filter λi=>decide (¬((B i).meet z).mt):=by
 have none:∀{t:Qt},t.good B->(t.area.meet z).mt->t.all.filter (λi=>decide (¬((B i).meet z).mt))=[]:=λ{t} h c=>by
  rw[List.filter_eq_nil_iff];intro i hi k;exact zsJ (Qt.all_in h i hi) (of_decide_eq_true k) c
 intro t
 induction t with
 |leaf a b=>
  intro h;unfold Qt.find
  split
  .rename_i k;exact(none h k).symm
  rfl
 |node a b p q r s d e f g=>
  intro h;unfold Qt.find
  split
  .rename_i k;exact(none h k).symm
  unfold Qt.all;simp only[Kk,d h.2.1,e h.2.2.1,f h.2.2.2.1,g h.2.2.2.2]
def Qt.cut_is(t:Qt):∃p q r s,t.cut=.node t.area t.ents p q r s/\t.cut.all=t.all:=by
 cases t with
 |leaf a b=>exact⟨_,_,_,_,rfl,by show b++[]++[]++[]++[]=b;simp⟩
 |node a b p q r s=>exact⟨_,_,_,_,rfl,rfl⟩
def Qt.cut_good{t:Qt}(h:t.good B):t.cut.good B:=by
 cases t with
 |leaf a b=>exact⟨λi hi=>h i (by simpa[Qt.all] using hi),(λ_ hi=>by cases hi),(λ_ hi=>by cases hi),(λ_ hi=>by cases hi),λ_ hi=>by cases hi⟩
 |node a b p q r s=>exact h
def zBZ(i:Int)(b:Rc)(n:Nat)(t:Qt):(t.ins i b n).area=t.area:=by
 have a:(t.push i).area=t.area:=by cases t <;> rfl
 cases n with
 |zero=>exact a
 |succ n=>
  unfold Qt.ins
  split
  .exact a
  obtain⟨p,q,r,s,e,_⟩:=t.cut_is;rw[e];dsimp only
  repeat' split
  all_goals rfl
def zeG{i:Int}{x x' y z:LV}(h:x'.Perm (i::x)):(y++x'++z).Perm (i::(y++x++z)):=by
 refine((h.append_left y).append_right z).trans ?_;have:=(List.perm_middle (a:=i) (l₁:=y) (l₂:=x++z))
 simpa[XM] using this
def zhI(i:Int)(t:Qt):(t.push i).all.Perm (i::t.all):=by
 cases t with
 |leaf a b=>exact JB (l₁:=b) (l₂:=[i])
 |node a b p q r s=>
  have h:(b++[i]).Perm (i::b):=JB (l₁:=b) (l₂:=[i]);have:=zeG (y:=[]) (z:=p.all++q.all++r.all++s.all) h
  simpa[Qt.push,Qt.all,XM] using this
def zdo(i:Int)(b:Rc):∀(n:Nat) (t:Qt),(t.ins i b n).all.Perm (i::t.all)
 |0,t=>zhI i t
 |n+1,t=>by
  unfold Qt.ins
  split
  .exact zhI i t
  obtain⟨p,q,r,s,e,a⟩:=t.cut_is;rw[←a,e];dsimp only
  split
  .have:=zeG (y:=t.ents) (z:=q.all++r.all++s.all) (zdo i b n p)
   simpa[Qt.all,XM] using this
  split
  .have:=zeG (y:=t.ents++p.all) (z:=r.all++s.all) (zdo i b n q)
   simpa[Qt.all,XM] using this
  split
  .have:=zeG (y:=t.ents++p.all++q.all) (z:=s.all) (zdo i b n r)
   simpa[Qt.all,XM] using this
  split
  .have:=zeG (y:=t.ents++p.all++q.all++r.all) (z:=[]) (zdo i b n s)
   simpa[Qt.all,XM] using this
  exact zhI i (.node t.area t.ents p q r s)
def zol{t:Qt}(h:t.good B)(hi:(B i).within t.area):(t.push i).good B:=by
 cases t with
 |leaf a c=>exact λj b=>(Xt.1 b).elim (h j) λk=>by rw[Xu.1 k];exact hi
 |node a c p q r s=>
  refine⟨λj b=>?_,h.2⟩
  rcases XH.1 ((zhI i (.node a c p q r s)).mem_iff.1 b) with rfl|k
  .exact hi
  exact h.1 j k
def zeH{B:Int->Rc}{i:Int}:∀(n:Nat) {t:Qt},t.good B->(B i).within t.area->(t.ins i (B i) n).good B
 |0,t,h,hi=>zol h hi
 |n+1,t,h,hi=>by
  have hall:=zdo i (B i) (n+1) t
  have a:∀j∈(t.ins i (B i) (n+1)).all,(B j).within t.area:=λj m=>by
   rcases XH.1 (hall.mem_iff.1 m) with rfl|k
   .exact hi
   exact Qt.all_in h j k
  revert a
  clear hall;unfold Qt.ins
  split
  .exact λ_=>zol h hi
  obtain⟨p,q,r,s,e,o⟩:=t.cut_is;have g:=Qt.cut_good h;rw[e]at g ⊢;dsimp only;obtain⟨_,b,c,d,f⟩:=g
  split
  .rename_i k;exact λa=>⟨a,zeH n b k,c,d,f⟩
  split
  .rename_i k;exact λa=>⟨a,b,zeH n c k,d,f⟩
  split
  .rename_i k;exact λa=>⟨a,b,c,zeH n d k,f⟩
  split
  .rename_i k;exact λa=>⟨a,b,c,d,zeH n f k⟩
  exact λa=>⟨a,b,c,d,f⟩
end Go.Gs
