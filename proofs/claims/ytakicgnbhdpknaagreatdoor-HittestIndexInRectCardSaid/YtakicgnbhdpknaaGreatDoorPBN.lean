/- Quadtrees za blocks of one's own: the blocks under names, a kid's blocks handed over. -/
import Derived.Test.YtakicgnbhdpknaaGreatDoorPBM
set_option maxRecDepth 100000
set_option maxHeartbeats 8000000
set_option linter.all false
namespace Go.Gs
open Proofs.Tryz
open Go.Proofs
def zsK{s:SV}{K:SV->Prop}(h:K s):vT s K:=by
 cases s with
 |val v=>cases v with
  |bool b=>cases b <;> exact h
  |_=>exact h
 |_=>exact h
def zmj:∀{l:LR} {K:LR->Prop},K l->zgx l K
 |[],_,h=>h
 |c::l,K,h=>by show vT c λc=>zgx l λr=>K (c::r);exact zsK (zmj (l:=l) (K:=λr=>K (c::r)) h)
def zuu{m:Mem}{K:Mem->Prop}(h:K m):zjL m K:=by
 cases m with
 |box T c=>exact zmj h
 |_=>exact h
def zsL:∀{n:Nat} {K:LI},K n->zqm n K
 |0,_,h=>h
 |n+1,K,h=>show zqm n _ from zsL (n:=n) (K:=λm=>K (m+1)) h
def zmk:∀{l:LT} {K:LT->Prop},K l->zgy l K
 |[],_,h=>h
 |(k,m)::l,K,h=>show zqm k _ from zsL (zuu (zmk (l:=l) (K:=λr=>K ((k,m)::r)) h))
def Qt.w:Qt->Nat
 |.leaf _ _=>1
 |.node _ _ p q r s=>6+p.w+q.w+r.w+s.w
def Qt.kidR(f:Nat->Nat):Qt->SV
 |.leaf _ _=>.val (.slice none 0 0)
 |.node _ _ _ _ _ _=>.own (f 2)
def shQ(f:Nat->Nat)(h b:Nat):Nat->Nat
 |0=>f h
 |x+1=>f (b+x)
def rbQ(f:Nat->Nat)(t:Qt):Mem:=.box 80 (rcE t.area++[.own (f 1),t.kidR f])
def zuv(f:Nat->Nat):Mem:=.garr 77 1 [[.loc (f 3) 0],[.loc (f 4) 0],[.loc (f 5) 0],[.loc (f 6) 0]]
def tlQ:Qt->(Nat->Nat)->LT
 |.leaf _ es,f=>[(f 1,.arr 3 zM 1 es)]
 |.node _ es p q r s,f=>(f 1,.arr 3 zM 1 es)::(f 2,zuv f)::(f 3,rbQ (shQ f 3 7) p)::(f 4,rbQ (shQ f 4 (7+p.w)) q)::(f 5,rbQ (shQ f 5 (7+p.w+q.w)) r)::(f 6,rbQ (shQ f 6 (7+p.w+q.w+r.w)) s)::
   (tlQ p (shQ f 3 7)++tlQ q (shQ f 4 (7+p.w))++tlQ r (shQ f 5 (7+p.w+q.w))++tlQ s (shQ f 6 (7+p.w+q.w+r.w)))
def mdQ(t:Qt)(f:Nat->Nat):LT:=(f 0,rbQ f t)::tlQ t f
variable{a:Rc}{es:LV}{p:Qt}{q:Qt}{r:Qt}{f:Nat->Nat}
def zml{s:Qt}{x:Nat×Mem}:x∈mdQ (.node a es p q r s) f↔x=(f 0,rbQ f (.node a es p q r s))∨x=(f 1,.arr 3 zM 1 es)∨x=(f 2,zuv f)∨
  x∈mdQ p (shQ f 3 7)∨x∈mdQ q (shQ f 4 (7+p.w))∨x∈mdQ r (shQ f 5 (7+p.w+q.w))∨x∈mdQ s (shQ f 6 (7+p.w+q.w+r.w)):=by
 simp only[mdQ,tlQ,XH,Xt,shQ];constructor
 .rintro(h|h|h|h|h|h|h|((h|h)|h)|h) <;> simp[h]
 rintro(h|h|h|(h|h)|(h|h)|(h|h)|(h|h)) <;> simp[h]
def zG9(g f:Nat->Nat)(h b:Nat):(λx=>g (shQ f h b x))=shQ (λx=>g (f x)) h b:=by
 funext x;cases x <;> rfl
def zyk(ks:LC)(Y:Nat)(A B:LT):ub ks Y (A++B)=ub ks Y A++ub ks Y B:=by
 induction A with
 |nil=>rfl
 |cons x A c=>exact Xg (List.cons _) c
def zB0(ks:LC)(Y:Nat)(f:Nat->Nat)(t:Qt):zhX ks Y (rbQ f t)=rbQ (λx=>rn ks Y (f x)) t:=by
 cases t <;> rfl
def zmm(ks:LC)(Y:Nat):∀(t:Qt) (f:Nat->Nat),ub ks Y (tlQ t f)=tlQ t λx=>rn ks Y (f x)
 |.leaf _ _,_=>rfl
 |.node a es p q r s,f=>by
  unfold tlQ;simp only[ub,zyk,zmm ks Y p,zmm ks Y q,zmm ks Y r,zmm ks Y s,zB0,zG9];rfl
def zp4(ks:LC)(Y:Nat)(t:Qt)(f:Nat->Nat):ub ks Y (mdQ t f)=mdQ t λx=>rn ks Y (f x):=by
 unfold mdQ;rw[ub,zmm,zB0]
def zhJ{f g:Nat->Nat}{h b n:Nat}(e:∀x,x<=b+n->f x=g x)(c:h<=b):∀x,x<=n+1->shQ f h b x=shQ g h b x:=by
 intro x d
 cases x with
 |zero=>exact e h oM
 |succ x=>exact e (b+x) oM
def zwb(t:Qt):∃n,t.w=n+1:=by
 cases t with
 |leaf a es=>exact⟨0,rfl⟩
 |node a es p q r s=>exact⟨5+p.w+q.w+r.w+s.w,by show 6+_+_+_+_=_;omega⟩
def uQ:∀(t:Qt) {f g:Nat->Nat},(∀x,x<=t.w->f x=g x)->mdQ t f=mdQ t g
 |.leaf a es,f,g,h=>by
  unfold mdQ rbQ tlQ Qt.kidR;rw[h 0 (Xh _),h 1 (Xj _)]
 |.node a es p q r s,f,g,h=>by
  have c:∀x,x<=6+p.w+q.w+r.w+s.w->f x=g x:=h;obtain⟨l,C⟩:=zwb p;obtain⟨o,D⟩:=zwb q;obtain⟨u,E⟩:=zwb r;obtain⟨v,F⟩:=zwb s;have e:=uQ p (f:=shQ f 3 7) (g:=shQ g 3 7) λx d=>zhJ (n:=l) (λx d=>c x oM) oM x oM
  have i:=uQ q (f:=shQ f 4 (7+p.w)) (g:=shQ g 4 (7+p.w)) λx d=>zhJ (n:=o) (λx d=>c x oM) oM x oM
  have j:=uQ r (f:=shQ f 5 (7+p.w+q.w)) (g:=shQ g 5 (7+p.w+q.w)) λx d=>zhJ (n:=u) (λx d=>c x oM) oM x oM
  have k:=uQ s (f:=shQ f 6 (7+p.w+q.w+r.w)) (g:=shQ g 6 (7+p.w+q.w+r.w)) λx d=>zhJ (n:=v) (λx d=>c x oM) oM x oM
  unfold mdQ at e i j k;injection e with e y
  injection i with i z
  injection j with j A
  injection k with k B
  unfold mdQ rbQ tlQ Qt.kidR zuv;rw[y,z,A,B,(YK e).2,(YK i).2,(YK j).2,(YK k).2,c 0 oM,c 1 oM,c 2 oM,c 3 oM,c 4 oM,c 5 oM,c 6 oM]
def zmW(f:Nat->Nat)(b n m:Nat):(List.range (n+m)).map (λx=>f (b+x))=(List.range n).map (λx=>f (b+x))++(List.range m).map λx=>f (b+n+x):=by
 rw[List.range_add,XA,Yo];congr 1;exact KR λx _=>by show f (b+(n+x))=_;rw[KH]
def zhK:∀(t:Qt) (f:Nat->Nat),(tlQ t f).map (·.1)=(List.range t.w).map λx=>f (1+x)
 |.leaf _ _,_=>rfl
 |.node a es p q r s,f=>by
  show _=(List.range (6+p.w+q.w+r.w+s.w)).map λx=>f (1+x)
  unfold tlQ;have c:=zhK p (shQ f 3 7);have d:=zhK q (shQ f 4 (7+p.w));have g:=zhK r (shQ f 5 (7+p.w+q.w));have i:=zhK s (shQ f 6 (7+p.w+q.w+r.w));have e:∀(h b n:Nat),(List.range n).map (λx=>shQ f h b (1+x))=(List.range n).map λx=>f (b+x):=λh b n=>KR λx _=>by rw[Q2];rfl
  rw[e]at c d g i;simp only[Qr,XA,c,d,g,i,zmW];rw[show 1+(6+p.w)=7+p.w by omega,show 1+(6+p.w+q.w)=7+p.w+q.w by omega,show 1+(6+p.w+q.w+r.w)=7+p.w+q.w+r.w by omega];simp only[XM];rfl
def zhL(t:Qt)(f:Nat->Nat):(mdQ t f).map (·.1)=(List.range (t.w+1)).map f:=by
 unfold mdQ;rw[Qr,zhK,List.range_succ_eq_map,Qr,Yo];congr 1;exact KR λx _=>by show f (1+x)=f (x+1);rw[Q2]
def zdp{a n:Nat}(h:a<n):Nat.blt a n=true:=YC h
def zB1{n:Nat}{t:Qt}(h:∀x,x<=t.w->f x<n):zqk n (rbQ f t)/\zwH n (rbQ f t):=by
 cases t with
 |leaf a es=>
  have c:=zdp (h 1 (Xj _));constructor
  .show(match Nat.blt (f 1) n with|true=>true|false=>false)=true;rw[c]
  show(match Nat.blt (f 1) n with|true=>true|false=>false)=true;rw[c]
 |node a es p q r s=>
  have e:∀x,x<=6+p.w+q.w+r.w+s.w->f x<n:=h;have c:=zdp (e 1 oM);have d:=zdp (e 2 oM);constructor
  .show(match Nat.blt (f 1) n with|true=>(match Nat.blt (f 2) n with|true=>true|false=>false)|false=>false)=true;rw[c,d]
  show(match Nat.blt (f 1) n with|true=>(match Nat.blt (f 2) n with|true=>true|false=>false)|false=>false)=true;rw[c,d]
def zeI{n:Nat}:∀(t:Qt) {f:Nat->Nat},(∀x,x<=t.w->f x<n)->∀y∈mdQ t f,zqk n y.2/\zwH n y.2
 |.leaf a es,f,h,y,c=>by
  rcases XH.1 c with rfl|c
  .exact zB1 h
  rw[Xu.1 c];exact⟨tV,tV⟩
 |.node a es p q r s,f,h,y,c=>by
  have e:∀x,x<=6+p.w+q.w+r.w+s.w->f x<n:=h
  have d:∀{g b m:Nat},g<=6->b+m<=7+p.w+q.w+r.w+s.w->∀x,x<=m->shQ f g b x<n:=λ{g b m} l k x i=>by
   cases x with
   |zero=>exact e g oM
   |succ x=>exact e (b+x) oM
  rcases zml.1 c with rfl|rfl|rfl|c|c|c|c
  .exact zB1 h
  .exact⟨tV,tV⟩
  .have b:∀j,j<=6->Nat.blt (f j) n=true:=λj o=>zdp (e j oM)
   constructor <;> intro x i <;> simp only[XH,XV,or_false]at i <;> rcases i with rfl|rfl|rfl|rfl <;> simp[uU.lows,uU,zb7.outs,zb7,b]
  .exact zeI p (d oM oM) y c
  .exact zeI q (d oM oM) y c
  .exact zeI r (d oM oM) y c
  exact zeI s (d oM oM) y c
def zom:∀{l:LC},l.Nodup->zaJ l=true
 |[],_=>rfl
 |x::r,h=>by
  have c:zmF x r=false:=by
   cases e:zmF x r with
   |false=>rfl
   |true=>exact absurd (zic e) (QS.1 h).1
  unfold zaJ;rw[c];exact zom (QS.1 h).2
def zsM{n:Nat}:∀{l:LT},(∀y∈l,y.1<n)->zkj n l=true
 |[],_=>rfl
 |(k,m)::r,h=>by
  show yB (Nat.blt k n) (zkj n r)=true;rw[zdp (h _ (XY ..)),zsM λy c=>h y (XQ _ c)];rfl
def zon{k:Nat}:∀{l:LT},zql k l=true->k∈l.map (·.1)
 |(q,m)::r,h=>by
  unfold zql at h
  split at h
  .rename_i e;rw[Xk e];exact XY ..
  exact XQ _ (zon h)
def zoo:∀{l:LT},(l.map (·.1)).Nodup->zfT l=true
 |[],_=>rfl
 |(k,m)::r,h=>by
  have c:zql k r=false:=by
   cases e:zql k r with
   |false=>rfl
   |true=>exact absurd (zon e) (QS.1 h).1
  unfold zfT;rw[c];exact zoo (QS.1 h).2
def zsN{d:LJ}{c:LC}{Y:Nat}{Mc:LT}:∀{ks:LC} {i:Nat},
  (∀q k,ks[q]?=some k->∃m,zW Mc (i+q)=some m/\d k=some (zhX c Y m)/\zqk c.length m)->zgw d c Y Mc i ks
 |[],_,_=>trivial
 |k::r,i,h=>⟨h 0 k rfl,zsN λq k e=>by rw[show i+1+q=i+(q+1) by omega];exact h (q+1) k e⟩
def zwc{n:Nat}:∀{l:LT},(∀y∈l,y.1<n/\zwH n y.2)->zki n l
 |[],_=>trivial
 |(j,m)::r,h=>⟨⟨zdp (h _ (XY ..)).1,(h _ (XY ..)).2⟩,zwc λy c=>h y (XQ _ c)⟩
def lab(t:Qt)(g:Nat->Nat):LC:=(List.range (t.w+1)).map g
def zau(t:Qt)(g:Nat->Nat):(lab t g).length=t.w+1:=by unfold lab;rw[Xw,Ki]
variable{x:Nat}
def zdq{t:Qt}{g:Nat->Nat}(h:x<=t.w):(lab t g)[x]?=some (g x):=by
 unfold lab;rw[XD,KQ oM];rfl
def Inj(t:Qt)(g:Nat->Nat):Prop:=∀x y,x<=t.w->y<=t.w->g x=g y->x=y
def ziW{t:Qt}{g:Nat->Nat}(h:Inj t g):(lab t g).Nodup:=by
 unfold lab;rw[J2,QW];refine(List.nodup_range (n:=t.w+1)).imp_of_mem λ{a b} d i c e=>c (h a b ?_ ?_ e)
 .have:=XU.1 d;omega
 have:=XU.1 i;omega
def zbM{t:Qt}{g:Nat->Nat}{y:Nat×Mem}(h:y∈mdQ t g):∃x,x<=t.w/\y.1=g x:=by
 have:y.1∈(mdQ t g).map (·.1):=JT h;rw[zhL]at this;obtain⟨x,c,e⟩:=XN.1 this;have:=XU.1 c;exact⟨x,oM,e.symm⟩
def zhM{t:Qt}{g:Nat->Nat}(h:Inj t g):(mdQ t g).Pairwise λa b=>a.1≠b.1:=by
 have:=ziW h;unfold lab at this;rw[←zhL,J2,QW]at this;exact this
def zp5(t:Qt):Inj t id:=λ_ _ _ _ e=>e
def zop{P:Program}{v:LJ}{Y:Nat}{f:FuncId}{args args':LR}{K:LD}{t l:Qt}{g n:Nat->Nat}{N:Nat}(inj:Inj t g)(A:∀y∈mdQ t g,v y.1=some y.2)(hN:∀x,x<=l.w->n x<t.w+1+N)(h:qg P f args' (mdQ t id) (.tup []) (mdQ l n))(z:LEs args (vS.rens (lab t g) Y args'))(B:uU.lows (t.w+1) args'=true)(k:K (.tup []) (.give (lab t g) (mdQ l λx=>rn (lab t g) Y (n x)) N)):zb P v Y f args K:=by
 have o:=zhL t id;have C:=zhM (zp5 t)
 have e:ub (lab t g) Y (mdQ t id)=mdQ t g:=by
  rw[zp4];exact uQ t λx j=>vz (zdq j)
 refine zb.give (lab t g) N args' (mdQ t id) (mdQ l n) (.tup []) h z (by rw[zau];exact B) (zom (ziW inj)) ?_ (zsN λq k s=>?_) rfl (zwc λy c=>?_) ?_
 .have d:(mdQ t id).length=(lab t g).length:=by
   have:=Xg List.length o;rw[Xw]at this;rw[this,zau,Xw,Ki]
  rw[d,zsM λy c=>(by obtain⟨x,j,e⟩:=zbM c;rw[e,zau];show x<_;omega),zoo (by rw[o];exact ziW (zp5 t))];show yB (Nat.beq _ _) (yB true true)=true;rw[K4];rfl
 .have i:q<=t.w:=by
   have:=(Xd.1 s).1;rw[zau]at this;omega
  rw[zdq i]at s
  cases s
  have u:q∈(mdQ t id).map (·.1):=by rw[o];exact XN.2 ⟨q,XU.2 oM,rfl⟩
  obtain⟨y,c,ey⟩:=XN.1 u;obtain⟨D,m⟩:=y
  cases ey
  refine⟨m,by rw[X8];exact zck C c,?_,?_⟩
  .have:=A _ (e ▸ zcj (ks:=lab t g) (Y:=Y) c)
   rwa [vz (zdq i)]at this
  rw[zau];exact(zeI t (f:=id) (λx j=>by show x<_;omega) _ c).1
 .rw[zau];obtain⟨x,j,ex⟩:=zbM c;exact⟨by rw[ex];exact hN x j,(zeI l hN y c).2⟩
 rw[zp4];exact zmk (zsK k)
def zp6{Z:St}{M1:LT}(d:∀x∈M1,x∈Z.M)(g:M1.Pairwise λa b=>a.1≠b.1):Sub Z ⟨Z.L,M1,Z.nk,Z.nt,Z.n0⟩:=λE O a w c=>by
 obtain⟨u,o⟩:=c.mem.let_go d g;have own:∀b,Own M1 O b->Own Z.M O b:=λb ⟨k,m,v,j,l,n⟩=>⟨k,m,v,d _ j,l,n⟩
 exact⟨O,c.size,c.defers,λt s i=>⟨(c.regs t s i).1,(c.regs t s i).2.mono (Xj _) (λb _ e=>⟨λh=>e (h.imp id (own b)),rfl⟩) (λb _ e=>⟨λh=>e (own b h),rfl⟩) λ_ _ h=>h⟩,o,c.fresh,c.stp.trans u,c.keep,c.low⟩
def zp7{M:LT}{ks:LC}{y:Nat×Mem}(d:M.Pairwise λa b=>a.1≠b.1)(h:y∈M)(c:y.1∉ks):y∈yc M ks:=
 zA ((zap c).trans (zck d h))
def Qt.kid:Qt->Nat->Qt
 |.node _ _ p _ _ _,0=>p
 |.node _ _ _ q _ _,1=>q
 |.node _ _ _ _ r _,2=>r
 |.node _ _ _ _ _ s,_=>s
 |t,_=>t
def Qt.base:Qt->Nat->Nat
 |.node _ _ _ _ _ _,0=>7
 |.node _ _ p _ _ _,1=>7+p.w
 |.node _ _ p q _ _,2=>7+p.w+q.w
 |.node _ _ p q r _,_=>7+p.w+q.w+r.w
 |_,_=>0
def Qt.put:Qt->Nat->Qt->Qt
 |.node a es _ q r s,0,t=>.node a es t q r s
 |.node a es p _ r s,1,t=>.node a es p t r s
 |.node a es p q _ s,2,t=>.node a es p q t s
 |.node a es p q r _,_,t=>.node a es p q r t
 |u,_,_=>u
def vP{s:Qt}{x:Nat×Mem}:x∈mdQ (.node a es p q r s) f↔x=(f 0,rbQ f (.node a es p q r s))∨x=(f 1,.arr 3 zM 1 es)∨x=(f 2,zuv f)∨
  ∃i,i<4/\x∈mdQ ((Qt.node a es p q r s).kid i) (shQ f (3+i) ((Qt.node a es p q r s).base i)):=by
 rw[zml];constructor
 .rintro(h|h|h|h|h|h|h)
  .exact .inl h
  .exact .inr (.inl h)
  .exact .inr (.inr (.inl h))
  .exact .inr (.inr (.inr ⟨0,oM,h⟩))
  .exact .inr (.inr (.inr ⟨1,oM,h⟩))
  .exact .inr (.inr (.inr ⟨2,oM,h⟩))
  exact .inr (.inr (.inr ⟨3,oM,h⟩))
 rintro(h|h|h|⟨i,hi,h⟩)
 .exact .inl h
 .exact .inr (.inl h)
 .exact .inr (.inr (.inl h))
 obtain rfl|rfl|rfl|rfl:i=0∨i=1∨i=2∨i=3:=by omega
 .exact .inr (.inr (.inr (.inl h)))
 .exact .inr (.inr (.inr (.inr (.inl h))))
 .exact .inr (.inr (.inr (.inr (.inr (.inl h)))))
 exact .inr (.inr (.inr (.inr (.inr (.inr h)))))
def zdr(a:Rc)(es:LV)(p q r s:Qt):∀i,i<4->7<=(Qt.node a es p q r s).base i/\(Qt.node a es p q r s).base i+((Qt.node a es p q r s).kid i).w<=(Qt.node a es p q r s).w+1/\
  ∀k,i<k->k<4->(Qt.node a es p q r s).base i+((Qt.node a es p q r s).kid i).w<=(Qt.node a es p q r s).base k:=by
 intro i hi;obtain rfl|rfl|rfl|rfl:i=0∨i=1∨i=2∨i=3:=oM
 all_goals
  refine⟨by simp only[Qt.base];omega,by simp only[Qt.base,Qt.kid,Qt.w];omega,λk c d=>?_⟩;obtain rfl|rfl|rfl:k=1∨k=2∨k=3:=oM
  all_goals simp only[Qt.base,Qt.kid] at*;omega
def zyl(a:Rc)(es:LV)(p q r s t:Qt):∀j,j<4->(∃c d e s',(Qt.node a es p q r s).put j t=.node a es c d e s')/\((Qt.node a es p q r s).put j t).w+((Qt.node a es p q r s).kid j).w=(Qt.node a es p q r s).w+t.w/\
  ∀i,i<4->(i=j->((Qt.node a es p q r s).put j t).kid i=t)/\(i≠j->((Qt.node a es p q r s).put j t).kid i=(Qt.node a es p q r s).kid i)/\(i<=j->((Qt.node a es p q r s).put j t).base i=(Qt.node a es p q r s).base i)/\
   (j<i->((Qt.node a es p q r s).put j t).base i+((Qt.node a es p q r s).kid j).w=(Qt.node a es p q r s).base i+t.w):=by
 intro j g;obtain rfl|rfl|rfl|rfl:j=0∨j=1∨j=2∨j=3:=oM
 all_goals
  refine⟨⟨_,_,_,_,rfl⟩,by simp only[Qt.put,Qt.kid,Qt.w];omega,λi hi=>?_⟩;obtain rfl|rfl|rfl|rfl:i=0∨i=1∨i=2∨i=3:=oM
  all_goals
   refine⟨λh=>?_,λh=>?_,λh=>?_,λh=>?_⟩
   all_goals first
    |exact absurd h oM
    |rfl
    |(simp only[Qt.put,Qt.kid,Qt.base];omega)
def ziX(b m n:Nat)(G:Nat->Nat)(x:Nat):Nat:=if x<b then x else if x<b+m then G (x-b+1) else x-m+n
variable{b:Nat}{m:Nat}
def zhN{n:Nat}{G:Nat->Nat}(h:x<b):ziX b m n G x=x:=Xe h
def zsO{n:Nat}{G:Nat->Nat}(h:x<m):ziX b m n G (b+x)=G (x+1):=by
 unfold ziX;rw[Xc oM,Xe oM,show b+x-b+1=x+1 by omega]
def zwd{n:Nat}{G:Nat->Nat}(h:b+m<=x):ziX b m n G x=x-m+n:=by
 unfold ziX;rw[Xc oM,Xc oM]
def zym{a:Rc}{es:LV}{p q r s U t n:Qt}{j b Y N:Nat}{g u:Nat->Nat}(hU:U=.node a es p q r s)(I:j<4)(ht:t=U.kid j)(L:b=U.base j)(T:g=shQ id (3+j) b)(hκ:U.w+1<=Y)(Q:u 0=0)(inj:Inj n u)(hN:∀x,x<=n.w->u x<t.w+1+N):
  ∃F,F 0=0/\F 1=1/\Inj (U.put j n) F/\(∀x,x<=(U.put j n).w->F x<Y+N)/\∀y∈mdQ (U.put j n) F,y∈mdQ n (λx=>rn (lab t g) Y (u x))++yc (mdQ U id) (lab t g):=by
 obtain⟨⟨p',q',r',s',e⟩,pw,pf⟩:=zyl a es p q r s n j I;have bf:=zdr a es p q r s;rw[←hU]at e pw pf bf;rw[←ht]at pw;obtain⟨W,X,K⟩:=bf j I;rw[←L,←ht]at X K;rw[←L]at W;have gs:∀v,g (v+1)=b+v:=λv=>by rw[T];rfl
 have P:g 0=3+j:=by rw[T];rfl
 obtain⟨G,hG⟩:∃G:Nat->Nat,G=λx=>rn (lab t g) Y (u x):=⟨_,rfl⟩
 have G0:G 0=3+j:=by rw[hG];dsimp only;rw[Q,vz (zdq (Xh _)),P]
 have Gx:∀x,1<=x->x<=n.w->(1<=u x/\u x<=t.w/\G x=b+(u x-1))∨(t.w<u x/\G x=Y+(u x-(t.w+1))):=λx R S=>by
  have hz:u x≠0:=λk=>by have:=inj x 0 S (Xh _) (k.trans Q.symm);omega
  rcases Kc t.w (u x) with k|k
  .refine .inr ⟨k,?_⟩;rw[hG];dsimp only;rw[zcV (by rw[zau];omega),zau]
  refine .inl ⟨oM,k,?_⟩;rw[hG];dsimp only;rw[vz (zdq k),show u x=(u x-1)+1 by omega,gs];omega
 rw[←hG];refine⟨ziX b n.w t.w G,zhN oM,zhN oM,λx y E M l=>?_,λx E=>?_,λy M=>?_⟩
 .unfold ziX at l;have q1:∀z,b<=z->z<b+n.w->_:=λz c d=>Gx (z-b+1) oM oM
  have q2:∀z D,b<=z->z<b+n.w->b<=D->D<b+n.w->u (z-b+1)=u (D-b+1)->z=D:=λz D c d c' d' k=>by
   have:=inj (z-b+1) (D-b+1) oM oM k;omega
  rcases Kc x b with c1|c1
  .rw[Xe c1]at l
   rcases Kc y b with o|o
   .rw[Xe o]at l;exact l
   rw[Xc oM]at l
   rcases Kc y (b+n.w) with A|A
   .rw[Xe A]at l;have:=q1 y o A;omega
   rw[Xc oM]at l;omega
  rw[Xc (show¬x<b by omega)]at l
  rcases Kc x (b+n.w) with H|H
  .rw[Xe H]at l;have O:=q1 x c1 H
   rcases Kc y b with o|o
   .rw[Xe o]at l;omega
   rw[Xc oM]at l
   rcases Kc y (b+n.w) with A|A
   .rw[Xe A]at l;have:=q1 y o A;exact q2 x y c1 H o A oM
   rw[Xc oM]at l;omega
  rw[Xc (show¬x<b+n.w by omega)]at l
  rcases Kc y b with o|o
  .rw[Xe o]at l;omega
  rw[Xc oM]at l
  rcases Kc y (b+n.w) with A|A
  .rw[Xe A]at l;have:=q1 y o A;omega
  rw[Xc oM]at l;omega
 .rcases Kc x b with c1|c1
  .rw[zhN c1];omega
  rcases Kc x (b+n.w) with o|o
  .rw[show x=b+(x-b) by omega,zsO oM];have:=Gx (x-b+1) oM oM;have:=hN (x-b+1) oM;omega
  rw[zwd o];omega
 have out:∀k,k∈lab t g->k=3+j∨(b<=k/\k<b+t.w):=λk C=>by
  obtain⟨v,hv,rfl⟩:=XN.1 C;have:=XU.1 hv
  cases v with
  |zero=>exact .inl P
  |succ v=>rw[gs];exact .inr ⟨oM,oM⟩
 have old:∀k m,(k,m)∈mdQ U id->(k≠3+j/\(k<b∨b+t.w<=k))->(k,m)∈mdQ n G++yc (mdQ U id) (lab t g):=λk m R S=>
  KS _ (zp7 (zhM (zp5 U)) R λh=>by have:=out k h;omega)
 have B:∀x,x<7->ziX b n.w t.w G x=x:=λx E=>zhN oM
 rw[e]at M
 rcases vP.1 M with rfl|rfl|rfl|⟨i,hi,C⟩
 .rw[B 0 oM,show rbQ (ziX b n.w t.w G) (.node a es p' q' r' s')=rbQ id U by rw[hU];unfold rbQ Qt.kidR;dsimp only[Qt.area];rw[B 1 oM,B 2 oM];rfl];exact old 0 _ (by rw[hU];exact vP.2 (.inl rfl)) oM
 .rw[B 1 oM];exact old 1 _ (by rw[hU];exact vP.2 (.inr (.inl rfl))) oM
 .rw[B 2 oM,show zuv (ziX b n.w t.w G)=zuv id by unfold zuv;rw[B 3 oM,B 4 oM,B 5 oM,B 6 oM];rfl];exact old 2 _ (by rw[hU];exact vP.2 (.inr (.inr (.inl rfl)))) oM
 rw[←e]at C;obtain⟨k1,k2,V,k4⟩:=pf i hi
 by_cases c:i=j
 .rw[k1 c,V oM,c,←L]at C;refine KZ _ ?_
  rwa [uQ n (f:=shQ (ziX b n.w t.w G) (3+j) b) (g:=G) λx E=>?_]at C
  cases x with
  |zero=>exact(B (3+j) oM).trans G0.symm
  |succ x=>exact zsO oM
 rw[k2 c]at C;obtain⟨c1,o,A⟩:=bf i hi
 have same:mdQ (U.kid i) (shQ (ziX b n.w t.w G) (3+i) ((U.put j n).base i))=mdQ (U.kid i) (shQ id (3+i) (U.base i)):=uQ _ λx E=>by
  cases x with
  |zero=>exact B (3+i) oM
  |succ x=>
   show ziX b n.w t.w G ((U.put j n).base i+x)=U.base i+x
   rcases Kc i j with d|d
   .have:=A j d I;rw[V oM,zhN oM]
   have O:=k4 oM;have Z:=K i oM hi;rw[←ht]at O;rw[zwd oM];omega
 rw[same]at C;obtain⟨J,m⟩:=y;refine old J m (by rw[hU]at C ⊢;exact vP.2 (.inr (.inr (.inr ⟨i,hi,C⟩)))) ?_;obtain⟨x,E,ex⟩:=zbM C;have ex:J=shQ id (3+i) (U.base i) x:=ex
 cases x with
 |zero=>
  have ex:J=3+i:=ex;omega
 |succ x=>
  have ex:J=U.base i+x:=ex
  rcases Kc i j with d|d
  .have:=A j d I;omega
  have Z:=K i oM hi;omega
def cl_S(q:LX)(d:q.length<=1000):CX 91 [.sl sgE q] (.sl sgE q):=by
 refine zc func91 ?_
 by_cases c:q=[]
 rotate_left;refine zdE.some (λh=>c (Xp h)) ?_;rotate_left;refine zdE.any (Br.mk (by subst c;exact zD) ?_)
 all_goals
  refine⟨Sg,sgE,[],rfl,wb2 ?_⟩;exact⟨q,rfl,Ob.mk ⟨(by show _*(56:Int)<=_;simp only[Xs];omega),(by simp only[Xs];omega),dC,λ_ _=>rfl⟩ .refl⟩
def cl_I(q:LV)(d:q.length<=1000):CX 93 [.sl zM q] (.sl zM q):=by
 refine zc func93 ?_
 by_cases c:q=[]
 rotate_left;refine zdE.some (λh=>c (Xp h)) ?_;rotate_left;refine zdE.any (Br.mk (by subst c;exact zD) ?_)
 all_goals
  refine⟨Int,zM,[],rfl,wb2 ?_⟩;exact⟨q,rfl,Ob.mk ⟨(by show _*(8:Int)<=_;simp only[Xs];omega),(by simp only[Xs];omega),dC,λ_ _=>rfl⟩ .refl⟩
def cl_X(q:List Pix)(d:q.length<=1000):CX 94 [.sl zey q] (.sl zey q):=by
 refine zc func94 ?_
 by_cases c:q=[]
 rotate_left;refine zdE.some (λh=>c (Xp h)) ?_;rotate_left;refine zdE.any (Br.mk (by subst c;exact zD) ?_)
 all_goals
  refine⟨Pix,zey,[],rfl,wb2 ?_⟩;exact⟨q,rfl,Ob.mk ⟨(by show _*(4:Int)<=_;simp only[Xs];omega),(by simp only[Xs];omega),dC,λ_ _=>rfl⟩ .refl⟩
def cl_T(q:List ziP)(d:q.length<=1000):CX 130 [.sl zdB q] (.sl zdB q):=by
 refine zc func130 ?_
 by_cases c:q=[]
 rotate_left;refine zdE.some (λh=>c (Xp h)) ?_;rotate_left;refine zdE.any (Br.mk (by subst c;exact zD) ?_)
 all_goals
  refine⟨ziP,zdB,[],rfl,wb2 ?_⟩;exact⟨q,rfl,Ob.mk ⟨(by show _*(16:Int)<=_;simp only[Xs];omega),(by simp only[Xs];omega),dC,λ_ _=>rfl⟩ .refl⟩
def cl_P(q:LY)(d:q.length<=1000):CG0 129 [.sl yG q] [] (.own 0) [(0,.arr 70 yG 40 q)]:=by
 refine qA tok mix func129 rfl rfl rfl ?_
 by_cases c:q=[]
 rotate_left;refine zdE.some (λh=>c (Xp h)) ?_;rotate_left;refine zdE.any (Br.mk ⟨none,.nil rfl,c⟩ ?_)
 all_goals
  refine⟨Pnt,yG,[],rfl,wb2 ?_⟩;exact⟨q,rfl,Ob.mk ⟨(by show _*(520:Int)<=_;simp only[Xs];omega),(by simp only[Xs];omega),dC,λ_ _=>rfl⟩ ⟨some 1,.own _ rfl,rfl,λ_ _=>rfl⟩⟩
def zaX(a:BI)(h:a.mag.length<=1000000):CX 128 [wl a] (wl a):=by
 exact zc func128<|wd<|wg (zo9 a.mag oM)<|wh<|.refl
def zmn:LN:=[[.loc 0 0],[.loc 0 4],[.loc 0 8],[.loc 0 12],[.loc 0 16],[.loc 0 20]]
def zsP:∀(i:Nat) x,zmn[i]?=some x->∃x',zmn[i]?=some x'/\ren.rens [(0,some 0),(1,some 1),(2,some 2)] x=some x':=λi x h=>⟨x,h,by
 have:=Xf h;simp only[zmn,XH,XV,or_false]at this
 rcases this with rfl|rfl|rfl|rfl|rfl|rfl <;> rfl⟩
def zB2(t:AF)(h:t.le 1000000):CX 90 [wo t] (wo t):=by
 have big:∀q:BR,q.len<=1000000->q.num.mag.length<=1000000/\q.den.mag.length<=1000000:=λq k=>by unfold BR.len at k;omega
 obtain⟨l,n,o,s,u,v⟩:=h;refine zc func90<|⟨zmn,rfl,Ob.mk ⟨rfl,dC,dC,dC,λx j=>?_⟩ ?_⟩
 .simp only[zmn,XH,XV,or_false]at j
  rcases j with rfl|rfl|rfl|rfl|rfl|rfl <;> rfl
 intro z;refine⟨Nat,λi=>⟨[(13,i64 i),(12,i64 6),(11,.own 2),(2,.loc 1 0),(1,.loc 0 0)],[(2,.garr 158 1 zmn),(1,.box 57 uh),(0,.box 57 (afE t))],3,32,0⟩,λi=>i<=6,λi=>6-i,0,Xh _,zt [0,1,2] ⟨⟨_,rfl,rfl,zsP⟩,rfl,rfl,tV⟩,?_⟩
 rintro i hi
 have hi:i<=6:=hi;refine⟨λg=>?_,λg=>.refl⟩;have g:(i:Int)<6:=g;refine Ob.mk (show 0<=(i:Int)/\(i:Int)<6 by omega)<|Ob.mk (show 0<=(i:Int)/\(i:Int)<6 by omega) λx(j:zmn[i]?=some x)=>?_;have w:i=0∨i=1∨i=2∨i=3∨i=4∨i=5:=oM;obtain⟨k,y⟩:∃k,i+1=k:=⟨_,rfl⟩
 rcases w with rfl|rfl|rfl|rfl|rfl|rfl
 all_goals
  cases j
  refine wd ?_
  first|refine zb.to _ (zaX t.a.num (big _ l).1) rfl (zb.to _ (zaX t.a.den (big _ l).2) rfl ?_)|refine zb.to _ (zaX t.b.num (big _ n).1) rfl (zb.to _ (zaX t.b.den (big _ n).2) rfl ?_)|refine zb.to _ (zaX t.c.num (big _ o).1) rfl (zb.to _ (zaX t.c.den (big _ o).2) rfl ?_)|
   refine zb.to _ (zaX t.d.num (big _ s).1) rfl (zb.to _ (zaX t.d.den (big _ s).2) rfl ?_)|refine zb.to _ (zaX t.e.num (big _ u).1) rfl (zb.to _ (zaX t.e.den (big _ u).2) rfl ?_)|refine zb.to _ (zaX t.f.num (big _ v).1) rfl (zb.to _ (zaX t.f.den (big _ v).2) rfl ?_)
  refine wh<|Ar.fit dC<|⟨k,oM,?_,oN⟩;subst y;exact zt [0,1,2] ⟨⟨_,rfl,rfl,zsP⟩,rfl,rfl,tV⟩
def zB3{α:Type _}{l:List α}{i:Nat}{x:α}(h:l[i]?=some x):l.set i x=l:=by
 obtain⟨d,c⟩:=Xd.1 h;rw[←c,List.set_getElem_self]
def zoq(l:LY)(k:l.length<=1000)(o:∀p∈l,ltP p):CX 92 [.sl yG l] (.sl yG l):=by
 refine zc func92<|zb.fresh _ _ (cl_P l k) rfl (λ_ _=>rfl) (.inl rfl) λn=>?_;refine⟨Nat,λi=>⟨[(10,i64 i),(9,i64 l.length),(3,.own 0)],[(0,.arr 70 yG 40 l)],1,44,0⟩,λi=>i<=l.length,λi=>l.length-i,0,Xh _,zf [0],?_⟩
 intro i hi;have hi:i<=l.length:=hi;refine⟨λg=>?_,λg=>.refl⟩;have g:(i:Int)<l.length:=g;obtain⟨p,h⟩:∃p,l[i]?=some p:=⟨_,Xb oM⟩;obtain⟨j,s,u⟩:=o p (Xf h);have e:=zB3 h;have d:0<=(i:Int)/\(i:Int)<l.length:=oM;refine Ob.mk d ?_;have get:∀z,l[(i:Int).toNat]?=some z->z=p:=λz c=>Xl ((show l[i]?=some z from c).symm.trans h)
 refine wd<|Ob.mk d λz c=>?_;rw[get z c];refine wg (cl_T p.st oM)<|Ob.mk d λz c=>?_;rw[get z c];refine wg (cl_X p.im.px oM)<|Ob.mk d λz c=>?_;rw[get z c];refine wg (zB2 p.t (j.up dC))<|Ob.mk d λz c=>?_;rw[get z c];refine⟨p,rfl,?_⟩;rw[show l.set (i:Int).toNat p=l from e];refine Ob.mk d λz c=>?_;rw[get z c];refine⟨p,rfl,?_⟩;rw[show l.set (i:Int).toNat p=l from e];refine Ob.mk d λz c=>?_;rw[get z c];refine⟨p,rfl,?_⟩
 rw[show l.set (i:Int).toNat p=l from e];exact wh<|wa<|⟨i+1,by show i+1<=l.length;omega,zf [0],oN⟩
def zEn(n:Nd)(h:ltN n):CX 56 [ww n] (ww n):=by
 obtain⟨⟨i,j,k,l,g,o,s⟩,e⟩:=h;refine zc func56<|wg (zB2 n.t (g.up dC))<|wd<|wg (cl_S n.clip oM)<|wg (cl_S n.path oM)<|wh ?_;refine wd<|wg (zoq n.fill oM λp c=>e p (KZ _ c))<|wg (zoq n.strk oM λp c=>e p (KS _ c))<|wh<|wd<|wg (cl_I n.pen.d oM) ?_;exact wg (cl_X n.im.px oM)<|wh<|.refl
def zB4(s:Sc)(j:s.ns.length<=1000)(h:∀n∈s.ns,ltN n):CX 31 [wq s] (wq s):=by
 refine zc func31 λe=>?_;refine⟨Nat,λi=>⟨[(11,i64 i),(10,i64 s.ns.length),(9,.sl ndE s.ns),(3,.loc 2 0),(2,.loc 1 0)],[(3,nArr (s.ns.take i)),(2,.box 26 (scO s 3)),(1,.box 26 (vals [.int .i64 0,.int .i64 0,.int .u8 0,.int .u8 0,.int .u8 0,.int .u8 0,.slice none 0 0]))],4,24,0⟩,λi=>i<=s.ns.length,λi=>s.ns.length-i,0,Xh _,zC [(1,some 1),(2,some 2),(3,none)],?_⟩
 intro i hi;have hi:i<=s.ns.length:=hi;refine⟨λg:(i:Int)<s.ns.length=>?_,λg:¬(i:Int)<s.ns.length=>?_⟩
 .refine wb λn(c:s.ns[i]?=some n)=>?_;refine wd<|wg (zEn n (h n (Xf c)))<|⟨Nd,ndE,[n],rfl,wb3 ?_⟩;have d:(s.ns.take i).length<=1000:=by rw[Xo];omega
  refine⟨[n],rfl,Ob.mk ⟨by show(((s.ns.take i).length:Int)+1)*_<=_;dsimp only;omega,by show(s.ns.take i).length+1<=_;omega,dC,λx c=>by rw[Xu.1 c];rfl⟩ ?_⟩;exact wh<|wa<|⟨i+1,by show i+1<=_;omega,zdy [(1,some 1),(2,some 2),(3,some 6)] ⟨Xg (λq=>some (nArr q)) (by rw[Xm,c];rfl),rfl,rfl,tV⟩,oN⟩
 exact jp (.C (.C (.C (.C (.C (.C (.cons (z6 (Xi oM)) .nil)))))))
def w_cnt(a b p:Pt)(n:Int)(s: -1000000<=n/\n<=1000000):
  CG0 113 [wk a,wk b,.ptr (ptE p),.loc 0 0] [(0,.box 3 [i64 n])] (.tup []) [(0,.box 3 [i64 (n+uR a b p)])]:=by
 refine ut tok mix func113 rfl rfl rfl rfl rfl ?_;have fin:∀{d:Int},uR a b p=d->some (Mem.box 3 [i64 (n+d)])=some (Mem.box 3 [i64 (n+uR a b p)]):=λh=>by rw[h]
 refine⟨λc=>?_,λc=>?_⟩;refine⟨λe=>?_,λe=>?_⟩;refine wg (zB6 a b p)<|⟨λg=>Ar.fit oM ⟨fin (zwe c e g),.refl⟩,λg=>?_⟩
 all_goals
  have o:¬(a.y<=p.y/\p.y<b.y/\0<sgn (orP a b p)):=λh=>by first|exact g h.2.2|exact e h.2.1|exact c h.1
  have sec:¬(b.y<=p.y/\p.y<a.y/\0<sgn (orP b a p))->some (Mem.box 3 [i64 n])=some (Mem.box 3 [i64 (n+uR a b p)]):=λk=>by rw[←fin (zwf o k),Ym]
  refine⟨λi=>?_,λi=>⟨sec λh=>i h.1,.refl⟩⟩;refine⟨λj=>?_,λj=>⟨sec λh=>j h.2.1,.refl⟩⟩;exact wg (zB6 b a p)<|⟨λl=>Ar.fit oM ⟨fin (zka o i j l),.refl⟩,λl=>⟨sec λh=>l h.2.2,.refl⟩⟩
def boxI{T:TypeId}{m n:Int}(h:m=n):some (Mem.box T [i64 m])=some (Mem.box T [i64 n]):=by rw[h]
def zEo(r:LU)(p:Pt)(c:Int)(n: -4096<=c/\c<=4096)(o:r.length<=4096):
  CG0 115 [.sl ptE r,.fn 113 [.loc 0 0,.loc 1 0]] [(0,.box 28 (ptE p)),(1,.box 3 [i64 c])] (.tup [])
   [(0,.box 28 (ptE p)),(1,.box 3 [i64 (c+uS r p r.length)])]:=by
 refine uf tok mix func115 rfl rfl rfl λe=>?_
 refine⟨Nat,λi=>⟨[(8,i64 i),(7,i64 r.length),(6,.sl ptE r),(0,.sl ptE r),(1,.fn 113 [.loc 0 0,.loc 1 0])],[(0,.box 28 (ptE p)),(1,.box 3 [i64 (c+uS r p i)])],2,25,2⟩,
  λi=>i<=r.length,λi=>r.length-i,0,Xh _,zt [0,1] ⟨rfl,boxI (Ym c).symm,tV⟩,?_⟩
 rintro i d
 have d:i<=r.length:=d;refine⟨λg:(i:Int)<r.length=>?_,λg=>?_⟩
 .refine wb λx(j:r[i]?=some x)=>?_;refine wd<|wa λh=>Dv.pos ⟨oM,oM⟩ ?_;have q1:=Kh ((i:Int)+1) (b:=(r.length:Int)) oM;have l:=Kd ((i:Int)+1) (b:=(r.length:Int)) oM;refine Ob.mk ⟨q1,l⟩ λy k=>?_;have s:=zeJ r p i;refine zb.hand 1 _ _ _ rfl (w_cnt x y p (c+uS r p i) oM) rfl rfl rfl rfl<|wh<|wa ?_
  exact⟨i+1,by show i+1<=r.length;omega,zt [0,1] ⟨rfl,boxI (by rw[zor j k oM,YM]),tV⟩,oN⟩
 obtain rfl:i=r.length:=by have g:¬(i:Int)<r.length:=g;omega
 exact⟨_,.refl,rfl,.refl⟩
def zwg{rs:LQ}{p:Pt}(h:¬zm p):0=zhO rs p:=(Xc λk=>h k.2).symm
def zHc(rs:LQ)(p:Pt)(d:kB rs):CX 79 [.sl zk rs,wk p] (i64 (zhO rs p)):=by
 have l:qe rs<=4096:=by have:=d.1;omega
 refine zc func79<|wg (qa p)<|⟨λh=>ze (zwg h),λh=>?_⟩;refine wg (zha rs λr j=>by have:=vI j;omega)<|⟨λk=>absurd d k,λ_=>?_⟩;intro s
 refine⟨Nat,λi=>⟨[(20,i64 i),(19,i64 rs.length),(18,.sl zk rs),(6,.fn 113 [.loc 0 0,.loc 1 0]),(5,.loc 1 0)],[(0,.box 28 (ptE p)),(1,.box 3 [i64 (zbN rs p i)])],2,29,0⟩,
  λi=>i<=rs.length,λi=>rs.length-i,0,Xh _,zf [0,1],?_⟩
 rintro i c
 have c:i<=rs.length:=c;refine⟨λg:(i:Int)<rs.length=>?_,λg=>?_⟩
 .refine wb λr(e:rs[i]?=some r)=>?_;have t:=zb4 rs p i c;have n:=zas rs i;have o:=vI (Xf e)
  refine zb.give [0,1] 0 [.sl ptE r,.fn 113 [.loc 0 0,.loc 1 0]] [(0,.box 28 (ptE p)),(1,.box 3 [i64 (zbN rs p i)])]
   [(0,.box 28 (ptE p)),(1,.box 3 [i64 (zbN rs p i+uS r p r.length)])] (.tup []) (zEo r p (zbN rs p i) oM oM) LEs.refl rfl rfl rfl ⟨⟨_,rfl,rfl,rfl⟩,⟨_,rfl,rfl,rfl⟩,tV⟩ rfl ⟨⟨rfl,rfl⟩,⟨rfl,rfl⟩,tV⟩ ?_
  exact wa<|⟨i+1,by show i+1<=rs.length;omega,zt [0,1] ⟨rfl,boxI (zdt e).symm,tV⟩,oN⟩
 obtain rfl:i=rs.length:=by have g:¬(i:Int)<rs.length:=g;omega
 exact ze (Xe ⟨d,Xa.1 h⟩).symm
def zHd(rs:LQ)(p:Pt)(e:kB rs):CX 124 [.sl zk rs,wk p] (i64 (zhO rs p)):=by
 have w:qe rs<=4096:=by have:=e.1;omega
 refine zc func124<|wg (zhb rs)<|⟨λk=>absurd e k,λ_=>?_⟩;refine wg (ki p)<|⟨λh=>ze (zwg h),λh=>?_⟩
 refine⟨Nat,λi=>⟨[(6,i64 i),(5,i64 (zbN rs p i)),(3,.loc 0 0),(0,.sl zk rs)],[(0,.box 28 (ptE p))],1,49,0⟩,
  λi=>i<=rs.length,λi=>rs.length-i,0,Xh _,zf [0],?_⟩
 rintro i d
 have d:i<=rs.length:=d;intro D;refine⟨λg:(i:Int)<rs.length=>?_,λg=>?_⟩
 .obtain⟨r,l⟩:∃r,rs[i]?=some r:=⟨_,Xb oM⟩;have get:∀z,rs[i]?=some z->z=r:=λz c=>Xl (c.symm.trans l)
  have E:=zb4 rs p i d;have B:=zas rs i;have C:=vI (Xf l)
  refine⟨Nat,λj=>⟨[(7,i64 j),(6,i64 i),(5,i64 (zbN rs p i+uS r p j)),(3,.loc 0 0),(0,.sl zk rs)],[(0,.box 28 (ptE p))],1,49,0⟩,
   λj=>j<=r.length,λj=>r.length-j,0,Xh _,zP [0] ⟨rfl,rfl,iR (Ym _).symm,rfl,rfl,tV⟩ ⟨rfl,tV⟩,?_⟩
  rintro j t
  have t:j<=r.length:=t;refine wb λz c=>?_;rw[get z c];intro v;refine⟨λg:(j:Int)<r.length=>?_,λg=>?_⟩
  .refine wc<|wb λz c=>?_;rw[get z c];refine wb λx(n:r[j]?=some x)=>?_;refine wb λz c=>?_;rw[get z c];have u:(j+1)%r.length<r.length:=Kn _ oM;obtain⟨y,o⟩:∃y,r[(j+1)%r.length]?=some y:=⟨_,Xb u⟩;have s:r[(((j:Int)+1)%(r.length:Int)).toNat]?=some y:=by rw[zjV oM,XT];exact o
   refine wg (zAc r j y ⟨oM,oM⟩ s)<|wg (zHb x y p) ?_;have A:=zeJ r p j;have ht:=zjz x y p;(iterate 2 refine wa ?_);exact⟨j+1,by show j+1<=r.length;omega,zP [0] ⟨rfl,rfl,iR (by rw[zor n s oM,YM]),rfl,rfl,tV⟩ ⟨rfl,tV⟩,oN⟩
  obtain rfl:j=r.length:=by have g:¬(j:Int)<r.length:=g;omega
  exact wa<|⟨i+1,by show i+1<=rs.length;omega,zP [0] ⟨rfl,iR (zdt l).symm,rfl,rfl,tV⟩ ⟨rfl,tV⟩,oN⟩
 obtain rfl:i=rs.length:=by have g:¬(i:Int)<rs.length:=g;omega
 exact ze (Xe ⟨e,Xa.1 h⟩).symm
def zEp{n:Int}(h: -9223372036854775808<=n/\n<=9223372036854775807):vr .and .i64 n (-1)=n:=by
 show IntKind.i64.wrap ((BitVec.ofInt 64 n&&&BitVec.ofInt 64 (-1)).toNat:Nat)=_;rw[show BitVec.ofInt 64 (-1)=BitVec.allOnes 64 from by decide,BitVec.and_allOnes,Qg];simp only[IntKind.wrap,IntKind.bits,IntKind.signed];simp;omega
def zB7(n:Int):vr .and .i64 n 0=0:=by
 show IntKind.i64.wrap ((BitVec.ofInt 64 n&&&BitVec.ofInt 64 0).toNat:Nat)=_;rw[show BitVec.ofInt 64 0=0#64 from by decide,BitVec.and_zero];decide
def zEq(n rule:Int)(h: -4096<=n/\n<=4096):CX 78 [i64 n,i64 rule] (pr (zce n rule)):=by
 refine zc func78 ?_;have c:=zCW (q:=n) 1 dC;refine⟨λk=>absurd k dC,λ_=>?_⟩;refine⟨λk=>?_,λk=>?_⟩
 .refine⟨_,rfl,zB ?_⟩;rw[zEp oM];unfold zce;omega
 refine⟨λd=>?_,λd=>?_⟩
 .refine⟨_,rfl,zB ?_⟩;rw[show(1:Int)=2^1-1 from rfl,c];unfold zce;omega
 refine⟨_,rfl,zB ?_⟩;rw[zB7];unfold zce;omega
def zEr(n rule:Int):CX 123 [i64 n,i64 rule] (pr (zce n rule)):=by
 refine zc func123 ?_;have e:=tm2 n;refine⟨λc=>?_,λc=>?_⟩;refine⟨λd=>zH (.inl ⟨c,d⟩),λd=>?_⟩
 all_goals
  refine⟨λg=>Dv.any dC (zB ?_),λg=>zd ?_⟩
  all_goals unfold zce;omega
def zhR(rs:LQ)(rule:Int)(p:Pt)(c:kB rs):CX 44 [.sl zk rs,i64 rule,wk p] (pr (yi rs rule p)):=by
 exact zc func44<|wg (zHc rs p c)<|zb.to _ (zEq _ rule (zsQ rs p)) rfl .refl
def zhS(rs:LQ)(rule:Int)(p:Pt)(c:kB rs):CX 87 [.sl zk rs,i64 rule,wk p] (pr (yi rs rule p)):=by
 exact zc func87<|wg (zHd rs p c)<|zb.to _ (zEr _ rule) rfl .refl
end Go.Gs
