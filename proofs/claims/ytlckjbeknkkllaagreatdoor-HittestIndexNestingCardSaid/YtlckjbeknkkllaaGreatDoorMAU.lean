/- Quadtrees za blocks of one's own: the blocks under names, a kid's blocks handed over. -/
import Derived.Test.YtlckjbeknkkllaaGreatDoorMAT
set_option maxRecDepth 100000
set_option maxHeartbeats 8000000
set_option linter.all false
namespace Go.Gs
open Proofs.Tryz
open Go.Proofs
section
def zqE{s:SV}{K:SV->Prop}(h:K s):uW s K:=by
 cases s with
 |val v=>cases v with
  |bool b=>cases b <;> exact h
  |_=>exact h
 |_=>exact h
def zkE:∀{l:LQ} {K:LQ->Prop},K l->zfi l K
 |[],_,h=>h
 |c::l,K,h=>by show uW c λc=>zfi l λr=>K (c::r);exact zqE (zkE (l:=l) (K:=λr=>K (c::r)) h)
def zsv{m:Mem}{K:Mem->Prop}(h:K m):zh6 m K:=by
 cases m with
 |box T cs=>exact zkE h
 |_=>exact h
def zqF:∀{n:Nat} {K:LG},K n->zof n K
 |0,_,h=>h
 |n+1,K,h=>show zof n _ from zqF (n:=n) (K:=λm=>K (m+1)) h
def zkF:∀{l:LT} {K:LT->Prop},K l->zfj l K
 |[],_,h=>h
 |(k,m)::l,K,h=>show zof k _ from zqF (zsv (zkF (l:=l) (K:=λr=>K ((k,m)::r)) h))
def Qt.w:Qt->Nat
 |.leaf _ _=>1
 |.node _ _ p q r s=>6+p.w+q.w+r.w+s.w
def Qt.kidR(f:Nat->Nat):Qt->SV
 |.leaf _ _=>.val (.slice none 0 0)
 |.node _ _ _ _ _ _=>.own (f 2)
def shQ(f:Nat->Nat)(h b:Nat):Nat->Nat
 |0=>f h
 |x+1=>f (b+x)
def rbQ(f:Nat->Nat)(t:Qt):Mem:=.box 98 (rcE t.area++[.own (f 1),t.kidR f])
def zsw(f:Nat->Nat):Mem:=.garr 79 1 [[.loc (f 3) 0],[.loc (f 4) 0],[.loc (f 5) 0],[.loc (f 6) 0]]
def tlQ:Qt->(Nat->Nat)->LT
 |.leaf _ es,f=>[(f 1,.arr 3 zN 1 es)]
 |.node _ es p q r s,f=>(f 1,.arr 3 zN 1 es)::(f 2,zsw f)::(f 3,rbQ (shQ f 3 7) p)::(f 4,rbQ (shQ f 4 (7+p.w)) q)::(f 5,rbQ (shQ f 5 (7+p.w+q.w)) r)::(f 6,rbQ (shQ f 6 (7+p.w+q.w+r.w)) s)::
   (tlQ p (shQ f 3 7)++tlQ q (shQ f 4 (7+p.w))++tlQ r (shQ f 5 (7+p.w+q.w))++tlQ s (shQ f 6 (7+p.w+q.w+r.w)))
def mdQ(t:Qt)(f:Nat->Nat):LT:=(f 0,rbQ f t)::tlQ t f
variable{a:Rc}{es:LU}{p:Qt}{q:Qt}{r:Qt}{f:Nat->Nat}
def zkG{s:Qt}{x:Nat×Mem}:x∈mdQ (.node a es p q r s) f↔x=(f 0,rbQ f (.node a es p q r s))∨x=(f 1,.arr 3 zN 1 es)∨x=(f 2,zsw f)∨
  x∈mdQ p (shQ f 3 7)∨x∈mdQ q (shQ f 4 (7+p.w))∨x∈mdQ r (shQ f 5 (7+p.w+q.w))∨x∈mdQ s (shQ f 6 (7+p.w+q.w+r.w)):=by
 simp only[mdQ,tlQ,XD,Xr,shQ];constructor
 ·rintro(h|h|h|h|h|h|h|((h|h)|h)|h) <;> simp[h]
 rintro(h|h|h|(h|h)|(h|h)|(h|h)|(h|h)) <;> simp[h]
def zFq(g f:Nat->Nat)(h b:Nat):(λx=>g (shQ f h b x))=shQ (λx=>g (f x)) h b:=by
 funext x;cases x <;> rfl
def zwp(ks:LB)(κ:Nat)(A B:LT):yk ks κ (A++B)=yk ks κ A++yk ks κ B:=by
 induction A with
 |nil=>rfl
 |cons x A ih=>exact Xj (List.cons _) ih
def zAe(ks:LB)(κ:Nat)(f:Nat->Nat)(t:Qt):zgu ks κ (rbQ f t)=rbQ (λx=>rn ks κ (f x)) t:=by
 cases t <;> rfl
def zkH(ks:LB)(κ:Nat):∀(t:Qt) (f:Nat->Nat),yk ks κ (tlQ t f)=tlQ t λx=>rn ks κ (f x)
 |.leaf _ _,_=>rfl
 |.node a es p q r s,f=>by
  unfold tlQ;simp only[yk,zwp,zkH ks κ p,zkH ks κ q,zkH ks κ r,zkH ks κ s,zAe,zFq];rfl
def zn5(ks:LB)(κ:Nat)(t:Qt)(f:Nat->Nat):yk ks κ (mdQ t f)=mdQ t λx=>rn ks κ (f x):=by
 unfold mdQ;rw[yk,zkH,zAe]
def zgo{f g:Nat->Nat}{h b n:Nat}(e:∀x,x<=b+n->f x=g x)(hh:h<=b):∀x,x<=n+1->shQ f h b x=shQ g h b x:=by
 intro x hx
 cases x with
 |zero=>exact e h oM
 |succ x=>exact e (b+x) oM
def zun(t:Qt):∃n,t.w=n+1:=by
 cases t with
 |leaf a es=>exact⟨0,rfl⟩
 |node a es p q r s=>exact⟨5+p.w+q.w+r.w+s.w,by show 6+_+_+_+_=_;omega⟩
def y4:∀(t:Qt) {f g:Nat->Nat},(∀x,x<=t.w->f x=g x)->mdQ t f=mdQ t g
 |.leaf a es,f,g,h=>by
  unfold mdQ rbQ tlQ Qt.kidR;rw[h 0 (Xg _),h 1 (Xi _)]
 |.node a es p q r s,f,g,h=>by
  have hw:∀x,x<=6+p.w+q.w+r.w+s.w->f x=g x:=h;obtain⟨a1,h1⟩:=zun p;obtain⟨a2,h2⟩:=zun q;obtain⟨a3,h3⟩:=zun r;obtain⟨a4,h4⟩:=zun s;have e1:=y4 p (f:=shQ f 3 7) (g:=shQ g 3 7) λx hx=>zgo (n:=a1) (λx hx=>hw x oM) oM x oM
  have e2:=y4 q (f:=shQ f 4 (7+p.w)) (g:=shQ g 4 (7+p.w)) λx hx=>zgo (n:=a2) (λx hx=>hw x oM) oM x oM
  have e3:=y4 r (f:=shQ f 5 (7+p.w+q.w)) (g:=shQ g 5 (7+p.w+q.w)) λx hx=>zgo (n:=a3) (λx hx=>hw x oM) oM x oM
  have e4:=y4 s (f:=shQ f 6 (7+p.w+q.w+r.w)) (g:=shQ g 6 (7+p.w+q.w+r.w)) λx hx=>zgo (n:=a4) (λx hx=>hw x oM) oM x oM
  unfold mdQ at e1 e2 e3 e4;injection e1 with e1 t1
  injection e2 with e2 t2
  injection e3 with e3 t3
  injection e4 with e4 t4
  unfold mdQ rbQ tlQ Qt.kidR zsw;rw[t1,t2,t3,t4,(J9 e1).2,(J9 e2).2,(J9 e3).2,(J9 e4).2,hw 0 oM,hw 1 oM,hw 2 oM,hw 3 oM,hw 4 oM,hw 5 oM,hw 6 oM]
def zk5(f:Nat->Nat)(b n m:Nat):(List.range (n+m)).map (λx=>f (b+x))=(List.range n).map (λx=>f (b+x))++(List.range m).map λx=>f (b+n+x):=by
 rw[List.range_add,XG,Yi];congr 1;exact Kg λx _=>by show f (b+(n+x))=_;rw[KE]
def zgp:∀(t:Qt) (f:Nat->Nat),(tlQ t f).map (·.1)=(List.range t.w).map λx=>f (1+x)
 |.leaf _ _,_=>rfl
 |.node a es p q r s,f=>by
  show _=(List.range (6+p.w+q.w+r.w+s.w)).map λx=>f (1+x)
  unfold tlQ;have k1:=zgp p (shQ f 3 7);have k2:=zgp q (shQ f 4 (7+p.w));have k3:=zgp r (shQ f 5 (7+p.w+q.w));have k4:=zgp s (shQ f 6 (7+p.w+q.w+r.w));have e:∀(h b n:Nat),(List.range n).map (λx=>shQ f h b (1+x))=(List.range n).map λx=>f (b+x):=λh b n=>Kg λx _=>by rw[Q0];rfl
  rw[e]at k1 k2 k3 k4;simp only[K8,XG,k1,k2,k3,k4,zk5];rw[show 1+(6+p.w)=7+p.w by omega,show 1+(6+p.w+q.w)=7+p.w+q.w by omega,show 1+(6+p.w+q.w+r.w)=7+p.w+q.w+r.w by omega];simp only[XS];rfl
def zgq(t:Qt)(f:Nat->Nat):(mdQ t f).map (·.1)=(List.range (t.w+1)).map f:=by
 unfold mdQ;rw[K8,zgp,List.range_succ_eq_map,K8,Yi];congr 1;exact Kg λx _=>by show f (1+x)=f (x+1);rw[Q0]
def zco{a n:Nat}(h:a<n):Nat.blt a n=true:=Yv h
def zAf{n:Nat}{t:Qt}(h:∀x,x<=t.w->f x<n):zod n (rbQ f t)/\zuE n (rbQ f t):=by
 cases t with
 |leaf a es=>
  have b1:=zco (h 1 (Xi _));constructor
  ·show(match Nat.blt (f 1) n with|true=>true|false=>false)=true;rw[b1]
  show(match Nat.blt (f 1) n with|true=>true|false=>false)=true;rw[b1]
 |node a es p q r s=>
  have hw:∀x,x<=6+p.w+q.w+r.w+s.w->f x<n:=h;have b1:=zco (hw 1 oM);have b2:=zco (hw 2 oM);constructor
  ·show(match Nat.blt (f 1) n with|true=>(match Nat.blt (f 2) n with|true=>true|false=>false)|false=>false)=true;rw[b1,b2]
  show(match Nat.blt (f 1) n with|true=>(match Nat.blt (f 2) n with|true=>true|false=>false)|false=>false)=true;rw[b1,b2]
def zdz{n:Nat}:∀(t:Qt) {f:Nat->Nat},(∀x,x<=t.w->f x<n)->∀y∈mdQ t f,zod n y.2/\zuE n y.2
 |.leaf a es,f,h,y,hy=>by
  rcases XD.1 hy with rfl|hy
  ·exact zAf h
  rw[Xu.1 hy];exact⟨tV,tV⟩
 |.node a es p q r s,f,h,y,hy=>by
  have hw:∀x,x<=6+p.w+q.w+r.w+s.w->f x<n:=h
  have hs:∀{g b m:Nat},g<=6->b+m<=7+p.w+q.w+r.w+s.w->∀x,x<=m->shQ f g b x<n:=λ{g b m} hg hb x hx=>by
   cases x with
   |zero=>exact hw g oM
   |succ x=>exact hw (b+x) oM
  rcases zkG.1 hy with rfl|rfl|rfl|hy|hy|hy|hy
  ·exact zAf h
  ·exact⟨tV,tV⟩
  ·have b:∀j,j<=6->Nat.blt (f j) n=true:=λj hj=>zco (hw j oM)
   constructor <;> intro x hx <;> simp only[XD,XR,or_false]at hx <;> rcases hx with rfl|rfl|rfl|rfl <;> simp[y8.lows,y8,zba.outs,zba,b]
  ·exact zdz p (hs oM oM) y hy
  ·exact zdz q (hs oM oM) y hy
  ·exact zdz r (hs oM oM) y hy
  exact zdz s (hs oM oM) y hy
def zmD:∀{l:LB},l.Nodup->vI l=true
 |[],_=>rfl
 |x::r,h=>by
  have hm:zkO x r=false:=by
   cases e:zkO x r with
   |false=>rfl
   |true=>exact absurd (zgJ e) (QO.1 h).1
  unfold vI;rw[hm];exact zmD (QO.1 h).2
def zqG{n:Nat}:∀{l:LT},(∀y∈l,y.1<n)->zix n l=true
 |[],_=>rfl
 |(k,m)::r,h=>by
  show jN (Nat.blt k n) (zix n r)=true;rw[zco (h _ (XW ..)),zqG λy hy=>h y (XO _ hy)];rfl
def zmE{k:Nat}:∀{l:LT},zoe k l=true->k∈l.map (·.1)
 |(q,m)::r,h=>by
  unfold zoe at h
  split at h
  ·rename_i e;rw[Xh e];exact XW ..
  exact XO _ (zmE h)
def zmF:∀{l:LT},(l.map (·.1)).Nodup->zeF l=true
 |[],_=>rfl
 |(k,m)::r,h=>by
  have hm:zoe k r=false:=by
   cases e:zoe k r with
   |false=>rfl
   |true=>exact absurd (zmE e) (QO.1 h).1
  unfold zeF;rw[hm];exact zmF (QO.1 h).2
def zqH{lm:LH}{ks0:LB}{κ:Nat}{Mc:LT}:∀{ks:LB} {i:Nat},
  (∀q k,ks[q]?=some k->∃m,zH Mc (i+q)=some m/\lm k=some (zgu ks0 κ m)/\zod ks0.length m)->zfh lm ks0 κ Mc i ks
 |[],_,_=>trivial
 |k::r,i,h=>⟨h 0 k rfl,zqH λq k hq=>by rw[show i+1+q=i+(q+1) by omega];exact h (q+1) k hq⟩
def zuo{n:Nat}:∀{l:LT},(∀y∈l,y.1<n/\zuE n y.2)->ziw n l
 |[],_=>trivial
 |(j,m)::r,h=>⟨⟨zco (h _ (XW ..)).1,(h _ (XW ..)).2⟩,zuo λy hy=>h y (XO _ hy)⟩
def lab(t:Qt)(g:Nat->Nat):LB:=(List.range (t.w+1)).map g
def vw(t:Qt)(g:Nat->Nat):(lab t g).length=t.w+1:=by unfold lab;rw[Xz,Kc]
variable{x:Nat}
def zcp{t:Qt}{g:Nat->Nat}(h:x<=t.w):(lab t g)[x]?=some (g x):=by
 unfold lab;rw[XA,KT oM];rfl
def Inj(t:Qt)(g:Nat->Nat):Prop:=∀x y,x<=t.w->y<=t.w->g x=g y->x=y
def zhg{t:Qt}{g:Nat->Nat}(h:Inj t g):(lab t g).Nodup:=by
 unfold lab;rw[JZ,QS];refine(List.nodup_range (n:=t.w+1)).imp_of_mem λ{a b} ha hb hab e=>hab (h a b ?_ ?_ e)
 ·have:=XT.1 ha;omega
 have:=XT.1 hb;omega
def zaR{t:Qt}{g:Nat->Nat}{y:Nat×Mem}(h:y∈mdQ t g):∃x,x<=t.w/\y.1=g x:=by
 have:y.1∈(mdQ t g).map (·.1):=JP h;rw[zgq]at this;obtain⟨x,hx,e⟩:=XL.1 this;have:=XT.1 hx;exact⟨x,oM,e.symm⟩
def zgr{t:Qt}{g:Nat->Nat}(h:Inj t g):(mdQ t g).Pairwise λa b=>a.1≠b.1:=by
 have:=zhg h;unfold lab at this;rw[←zgq,JZ,QS]at this;exact this
def zn6(t:Qt):Inj t id:=λ_ _ _ _ e=>e
def zmG{P:Program}{lm:LH}{κ:Nat}{f:FuncId}{args args':LQ}{K:SV->MD->Prop}{t t':Qt}{g f':Nat->Nat}{N:Nat}(inj:Inj t g)(hg:∀y∈mdQ t g,lm y.1=some y.2)(hN:∀x,x<=t'.w->f' x<t.w+1+N)(h:kK P f args' (mdQ t id) (.tup []) (mdQ t' f'))(ha:LEs args (uU.rens (lab t g) κ args'))(hl:y8.lows (t.w+1) args'=true)(k:K (.tup []) (.give (lab t g) (mdQ t' λx=>rn (lab t g) κ (f' x)) N)):zb P lm κ f args K:=by
 have hk:=zgq t id;have hp:=zgr (zn6 t)
 have e:yk (lab t g) κ (mdQ t id)=mdQ t g:=by
  rw[zn5];exact y4 t λx hx=>uJ (zcp hx)
 refine zb.give (lab t g) N args' (mdQ t id) (mdQ t' f') (.tup []) h ha (by rw[vw];exact hl) (zmD (zhg inj)) ?_ (zqH λq k hq=>?_) rfl (zuo λy hy=>?_) ?_
 ·have hlen:(mdQ t id).length=(lab t g).length:=by
   have:=Xj List.length hk;rw[Xz]at this;rw[this,vw,Xz,Kc]
  rw[hlen,zqG λy hy=>(by obtain⟨x,hx,e⟩:=zaR hy;rw[e,vw];show x<_;omega),zmF (by rw[hk];exact zhg (zn6 t))];show jN (Nat.beq _ _) (jN true true)=true;rw[K4];rfl
 ·have hq':q<=t.w:=by
   have:=(Xd.1 hq).1;rw[vw]at this;omega
  rw[zcp hq']at hq
  cases hq
  have hqk:q∈(mdQ t id).map (·.1):=by rw[hk];exact XL.2 ⟨q,XT.2 oM,rfl⟩
  obtain⟨y,hy,ey⟩:=XL.1 hqk;obtain⟨y1,m⟩:=y
  cases ey
  refine⟨m,by rw[X9];exact zbp hp hy,?_,?_⟩
  ·have:=hg _ (e ▸ zbo (ks:=lab t g) (κ:=κ) hy)
   rwa [uJ (zcp hq')]at this
  rw[vw];exact(zdz t (f:=id) (λx hx=>by show x<_;omega) _ hy).1
 ·rw[vw];obtain⟨x,hx,ex⟩:=zaR hy;exact⟨by rw[ex];exact hN x hx,(zdz t' hN y hy).2⟩
 rw[zn5];exact zkF (zqE k)
variable{σ:St}
def zn7{M1:LT}(hsub:∀x∈M1,x∈σ.M)(hpw:M1.Pairwise λa b=>a.1≠b.1):Sub σ ⟨σ.L,M1,σ.nk,σ.nt,σ.n0⟩:=λE ρ a w hr=>by
 obtain⟨hs,hm⟩:=hr.mem.let_go hsub hpw;have own:∀b,Own M1 ρ b->Own σ.M ρ b:=λb ⟨k,m,v,h1,h2,h3⟩=>⟨k,m,v,hsub _ h1,h2,h3⟩
 exact⟨ρ,hr.size,hr.defers,λt s hl=>⟨(hr.regs t s hl).1,(hr.regs t s hl).2.mono (Xi _) (λb _ hb=>⟨λh=>hb (h.imp id (own b)),rfl⟩) (λb _ hb=>⟨λh=>hb (own b h),rfl⟩) λ_ _ h=>h⟩,hm,hr.fresh,hr.stp.trans hs,hr.keep,hr.low⟩
variable{M:LT}
def zn8{ks:LB}{y:Nat×Mem}(hp:M.Pairwise λa b=>a.1≠b.1)(h:y∈M)(hk:y.1∉ks):y∈jv M ks:=
 zn ((vr hk).trans (zbp hp h))
def Qt.kid:Qt->Nat->Qt
 |.node _ _ p _ _ _,0=>p
 |.node _ _ _ q _ _,1=>q
 |.node _ _ _ _ r _,2=>r
 |.node _ _ _ _ _ s,_=>s
 |t,_=>t
def Qt.base:Qt->Nat->Nat
 |.node _ _ _ _ _ _,0=>7
 |.node _ _ p _ _ _,1=>7+p.w
 |.node _ _ p q _ _,2=>7+p.w+q.w
 |.node _ _ p q r _,_=>7+p.w+q.w+r.w
 |_,_=>0
def Qt.put:Qt->Nat->Qt->Qt
 |.node a es _ q r s,0,t=>.node a es t q r s
 |.node a es p _ r s,1,t=>.node a es p t r s
 |.node a es p q _ s,2,t=>.node a es p q t s
 |.node a es p q r _,_,t=>.node a es p q r t
 |u,_,_=>u
def uS{s:Qt}{x:Nat×Mem}:x∈mdQ (.node a es p q r s) f↔x=(f 0,rbQ f (.node a es p q r s))∨x=(f 1,.arr 3 zN 1 es)∨x=(f 2,zsw f)∨
  ∃i,i<4/\x∈mdQ ((Qt.node a es p q r s).kid i) (shQ f (3+i) ((Qt.node a es p q r s).base i)):=by
 rw[zkG];constructor
 ·rintro(h|h|h|h|h|h|h)
  ·exact .inl h
  ·exact .inr (.inl h)
  ·exact .inr (.inr (.inl h))
  ·exact .inr (.inr (.inr ⟨0,oM,h⟩))
  ·exact .inr (.inr (.inr ⟨1,oM,h⟩))
  ·exact .inr (.inr (.inr ⟨2,oM,h⟩))
  exact .inr (.inr (.inr ⟨3,oM,h⟩))
 rintro(h|h|h|⟨i,hi,h⟩)
 ·exact .inl h
 ·exact .inr (.inl h)
 ·exact .inr (.inr (.inl h))
 obtain rfl|rfl|rfl|rfl:i=0∨i=1∨i=2∨i=3:=by omega
 ·exact .inr (.inr (.inr (.inl h)))
 ·exact .inr (.inr (.inr (.inr (.inl h))))
 ·exact .inr (.inr (.inr (.inr (.inr (.inl h)))))
 exact .inr (.inr (.inr (.inr (.inr (.inr h)))))
def zcq(a:Rc)(es:LU)(p q r s:Qt):∀i,i<4->7<=(Qt.node a es p q r s).base i/\(Qt.node a es p q r s).base i+((Qt.node a es p q r s).kid i).w<=(Qt.node a es p q r s).w+1/\
  ∀k,i<k->k<4->(Qt.node a es p q r s).base i+((Qt.node a es p q r s).kid i).w<=(Qt.node a es p q r s).base k:=by
 intro i hi;obtain rfl|rfl|rfl|rfl:i=0∨i=1∨i=2∨i=3:=oM
 all_goals
  refine⟨by simp only[Qt.base];omega,by simp only[Qt.base,Qt.kid,Qt.w];omega,λk h1 h2=>?_⟩;obtain rfl|rfl|rfl:k=1∨k=2∨k=3:=oM
  all_goals simp only[Qt.base,Qt.kid] at*;omega
def zwq(a:Rc)(es:LU)(p q r s t:Qt):∀j,j<4->(∃p' q' r' s',(Qt.node a es p q r s).put j t=.node a es p' q' r' s')/\((Qt.node a es p q r s).put j t).w+((Qt.node a es p q r s).kid j).w=(Qt.node a es p q r s).w+t.w/\
  ∀i,i<4->(i=j->((Qt.node a es p q r s).put j t).kid i=t)/\(i≠j->((Qt.node a es p q r s).put j t).kid i=(Qt.node a es p q r s).kid i)/\(i<=j->((Qt.node a es p q r s).put j t).base i=(Qt.node a es p q r s).base i)/\
   (j<i->((Qt.node a es p q r s).put j t).base i+((Qt.node a es p q r s).kid j).w=(Qt.node a es p q r s).base i+t.w):=by
 intro j hj;obtain rfl|rfl|rfl|rfl:j=0∨j=1∨j=2∨j=3:=oM
 all_goals
  refine⟨⟨_,_,_,_,rfl⟩,by simp only[Qt.put,Qt.kid,Qt.w];omega,λi hi=>?_⟩;obtain rfl|rfl|rfl|rfl:i=0∨i=1∨i=2∨i=3:=oM
  all_goals
   refine⟨λh=>?_,λh=>?_,λh=>?_,λh=>?_⟩
   all_goals first
    |exact absurd h oM
    |rfl
    |(simp only[Qt.put,Qt.kid,Qt.base];omega)
def zhh(b m n:Nat)(G:Nat->Nat)(x:Nat):Nat:=if x<b then x else if x<b+m then G (x-b+1) else x-m+n
variable{b:Nat}{m:Nat}
def zgs{n:Nat}{G:Nat->Nat}(h:x<b):zhh b m n G x=x:=Xe h
def zqI{n:Nat}{G:Nat->Nat}(h:x<m):zhh b m n G (b+x)=G (x+1):=by
 unfold zhh;rw[Xb oM,Xe oM,show b+x-b+1=x+1 by omega]
def zup{n:Nat}{G:Nat->Nat}(h:b+m<=x):zhh b m n G x=x-m+n:=by
 unfold zhh;rw[Xb oM,Xb oM]
def zwr{a:Rc}{es:LU}{p q r s U t t':Qt}{j b κ N:Nat}{g f':Nat->Nat}(hU:U=.node a es p q r s)(hj:j<4)(ht:t=U.kid j)(hb:b=U.base j)(hg:g=shQ id (3+j) b)(hκ:U.w+1<=κ)(h0:f' 0=0)(inj:Inj t' f')(hN:∀x,x<=t'.w->f' x<t.w+1+N):
  ∃F,F 0=0/\F 1=1/\Inj (U.put j t') F/\(∀x,x<=(U.put j t').w->F x<κ+N)/\∀y∈mdQ (U.put j t') F,y∈mdQ t' (λx=>rn (lab t g) κ (f' x))++jv (mdQ U id) (lab t g):=by
 obtain⟨⟨p',q',r',s',e⟩,pw,pf⟩:=zwq a es p q r s t' j hj;have bf:=zcq a es p q r s;rw[←hU]at e pw pf bf;rw[←ht]at pw;obtain⟨b1,b2,b3⟩:=bf j hj;rw[←hb,←ht]at b2 b3;rw[←hb]at b1;have gs:∀v,g (v+1)=b+v:=λv=>by rw[hg];rfl
 have g0:g 0=3+j:=by rw[hg];rfl
 obtain⟨G,hG⟩:∃G:Nat->Nat,G=λx=>rn (lab t g) κ (f' x):=⟨_,rfl⟩
 have G0:G 0=3+j:=by rw[hG];dsimp only;rw[h0,uJ (zcp (Xg _)),g0]
 have Gx:∀x,1<=x->x<=t'.w->(1<=f' x/\f' x<=t.w/\G x=b+(f' x-1))∨(t.w<f' x/\G x=κ+(f' x-(t.w+1))):=λx h1 h2=>by
  have hz:f' x≠0:=λk=>by have:=inj x 0 h2 (Xg _) (k.trans h0.symm);omega
  rcases X7 t.w (f' x) with k|k
  ·refine .inr ⟨k,?_⟩;rw[hG];dsimp only;rw[zbS (by rw[vw];omega),vw]
  refine .inl ⟨oM,k,?_⟩;rw[hG];dsimp only;rw[uJ (zcp k),show f' x=(f' x-1)+1 by omega,gs];omega
 rw[←hG];refine⟨zhh b t'.w t.w G,zgs oM,zgs oM,λx y hx hy hxy=>?_,λx hx=>?_,λy hy=>?_⟩
 ·unfold zhh at hxy;have q1:∀z,b<=z->z<b+t'.w->_:=λz c d=>Gx (z-b+1) oM oM
  have q2:∀z z',b<=z->z<b+t'.w->b<=z'->z'<b+t'.w->f' (z-b+1)=f' (z'-b+1)->z=z':=λz z' c d c' d' k=>by
   have:=inj (z-b+1) (z'-b+1) oM oM k;omega
  rcases X7 x b with c1|c1
  ·rw[Xe c1]at hxy
   rcases X7 y b with c2|c2
   ·rw[Xe c2]at hxy;exact hxy
   rw[Xb oM]at hxy
   rcases X7 y (b+t'.w) with c3|c3
   ·rw[Xe c3]at hxy;have:=q1 y c2 c3;omega
   rw[Xb oM]at hxy;omega
  rw[Xb (show¬x<b by omega)]at hxy
  rcases X7 x (b+t'.w) with c4|c4
  ·rw[Xe c4]at hxy;have d1:=q1 x c1 c4
   rcases X7 y b with c2|c2
   ·rw[Xe c2]at hxy;omega
   rw[Xb oM]at hxy
   rcases X7 y (b+t'.w) with c3|c3
   ·rw[Xe c3]at hxy;have:=q1 y c2 c3;exact q2 x y c1 c4 c2 c3 oM
   rw[Xb oM]at hxy;omega
  rw[Xb (show¬x<b+t'.w by omega)]at hxy
  rcases X7 y b with c2|c2
  ·rw[Xe c2]at hxy;omega
  rw[Xb oM]at hxy
  rcases X7 y (b+t'.w) with c3|c3
  ·rw[Xe c3]at hxy;have:=q1 y c2 c3;omega
  rw[Xb oM]at hxy;omega
 ·rcases X7 x b with c1|c1
  ·rw[zgs c1];omega
  rcases X7 x (b+t'.w) with c2|c2
  ·rw[show x=b+(x-b) by omega,zqI oM];have:=Gx (x-b+1) oM oM;have:=hN (x-b+1) oM;omega
  rw[zup c2];omega
 have out:∀k,k∈lab t g->k=3+j∨(b<=k/\k<b+t.w):=λk hk=>by
  obtain⟨v,hv,rfl⟩:=XL.1 hk;have:=XT.1 hv
  cases v with
  |zero=>exact .inl g0
  |succ v=>rw[gs];exact .inr ⟨oM,oM⟩
 have old:∀k m,(k,m)∈mdQ U id->(k≠3+j/\(k<b∨b+t.w<=k))->(k,m)∈mdQ t' G++jv (mdQ U id) (lab t g):=λk m h1 h2=>
  KF _ (zn8 (zgr (zn6 U)) h1 λh=>by have:=out k h;omega)
 have l0:∀x,x<7->zhh b t'.w t.w G x=x:=λx hx=>zgs oM
 rw[e]at hy
 rcases uS.1 hy with rfl|rfl|rfl|⟨i,hi,hk⟩
 ·rw[l0 0 oM,show rbQ (zhh b t'.w t.w G) (.node a es p' q' r' s')=rbQ id U by rw[hU];unfold rbQ Qt.kidR;dsimp only[Qt.area];rw[l0 1 oM,l0 2 oM];rfl];exact old 0 _ (by rw[hU];exact uS.2 (.inl rfl)) oM
 ·rw[l0 1 oM];exact old 1 _ (by rw[hU];exact uS.2 (.inr (.inl rfl))) oM
 ·rw[l0 2 oM,show zsw (zhh b t'.w t.w G)=zsw id by unfold zsw;rw[l0 3 oM,l0 4 oM,l0 5 oM,l0 6 oM];rfl];exact old 2 _ (by rw[hU];exact uS.2 (.inr (.inr (.inl rfl)))) oM
 rw[←e]at hk;obtain⟨k1,k2,k3,k4⟩:=pf i hi
 by_cases c:i=j
 ·rw[k1 c,k3 oM,c,←hb]at hk;refine KM _ ?_
  rwa [y4 t' (f:=shQ (zhh b t'.w t.w G) (3+j) b) (g:=G) λx hx=>?_]at hk
  cases x with
  |zero=>exact(l0 (3+j) oM).trans G0.symm
  |succ x=>exact zqI oM
 rw[k2 c]at hk;obtain⟨c1,c2,c3⟩:=bf i hi
 have same:mdQ (U.kid i) (shQ (zhh b t'.w t.w G) (3+i) ((U.put j t').base i))=mdQ (U.kid i) (shQ id (3+i) (U.base i)):=y4 _ λx hx=>by
  cases x with
  |zero=>exact l0 (3+i) oM
  |succ x=>
   show zhh b t'.w t.w G ((U.put j t').base i+x)=U.base i+x
   rcases X7 i j with d|d
   ·have:=c3 j d hj;rw[k3 oM,zgs oM]
   have d1:=k4 oM;have d2:=b3 i oM hi;rw[←ht]at d1;rw[zup oM];omega
 rw[same]at hk;obtain⟨y1,m⟩:=y;refine old y1 m (by rw[hU]at hk ⊢;exact uS.2 (.inr (.inr (.inr ⟨i,hi,hk⟩)))) ?_;obtain⟨x,hx,ex⟩:=zaR hk;have ex:y1=shQ id (3+i) (U.base i) x:=ex
 cases x with
 |zero=>
  have ex:y1=3+i:=ex;omega
 |succ x=>
  have ex:y1=U.base i+x:=ex
  rcases X7 i j with d|d
  ·have:=c3 j d hj;omega
  have d2:=b3 i oM hi;omega
def zdA{P:Program}{Γ:LS}(nk:Nat)(hT:TOK P Γ)(hm:P.follows .mixedOrders=true){f:FuncId}{fn:Func}{c:Code}{args:LQ}{M':LT}{r:SV}(hnk:M.length<=nk)(hf:P.funcs[f]?=some fn)(hb:fn.body=some c)(hn:(fn.name== "runtime.NumGoroutine")=false) (hle:Nat.ble args.length fn.ntmps=true)
  (h:qS P Γ c ⟨qI 0 args,M,nk,fn.ntmps,M.length⟩ (endG Γ fn.results.toList r M')):kK P f args M r M':=by
 refine⟨⟨fn,hf,hn,by rw[hb];rfl⟩,λKeep ρ w vs _ hmem hρ hg=>calls_of_wp hf hb ?_⟩;have hrel:=uw (nt:=fn.ntmps) hmem hρ hg (Xx hle);have hrel:Rel ⟨w,ρ,Keep,Own M ρ,[]⟩ ⟨qI 0 args,M,nk,fn.ntmps,M.length⟩ ρ _ w:=⟨hrel.size,hrel.defers,hrel.regs,hrel.mem,λk hk=>hρ k (XE hnk hk),hrel.stp,hrel.keep,hrel.low⟩;refine Code.wp_mono (λe a' w' hq=>?_) (ky hT hm c hrel h)
 have fin:∀σ ρ1,(∃σ',Sub σ σ'/\σ'.M=M'/\zal σ' Γ fn.results.toList λs=>LE s r)->Rel ⟨w,ρ,Keep,Own M ρ,[]⟩ σ ρ1 a' w'->a'.defers=[]/\∃v,(results fn a'.tmps).run P w'=.ok v w'/\∃v' ρ',Ending.returned v=.returned v'/\Stp (Own M ρ) (Own M' ρ') ρ ρ' w w'/\
   zB Keep M' ρ' w'/\G (λb=>Keep b∨Own M' ρ' b) (Own M' ρ') ρ' w' r v':=by
  clear hq
  rintro σ0 ρ0 ⟨σ,hsub,rfl,hq⟩ hr0
  obtain⟨ρ1,hr⟩:=hsub _ _ _ _ hr0;obtain⟨s,hle,h1⟩:=jb hT hq;obtain⟨v,g1,g2⟩:=h1 hr;exact⟨hr.defers,v,g1,v,ρ1,rfl,hr.stp,hr.mem,hle _ _ _ _ _ g2⟩
 cases e with
 |normal=>obtain⟨σ,ρ1,hq,hr⟩:=hq;exact fin σ ρ1 hq hr
 |ret=>obtain⟨σ,ρ1,hq,hr⟩:=hq;exact fin σ ρ1 hq hr
 |exit id=>obtain⟨σ,ρ1,hq,hr⟩:=hq;exact hq.elim
 |_=>exact hq.elim
def zAg(L:LP):LP->Prop
 |[]=>True
 |(t,s)::r=>z6 L t=some s/\zAg L r
def zmH{L:LP}:∀{L':LP},zAg L L'->∀t s,z6 L' t=some s->z6 L t=some s
 |(t',s')::r,⟨h1,h2⟩,t,s,h=>by
  rw[zK]at h
  split at h
  ·rename_i e;rw[←e,h1];exact h
  exact zmH h2 t s h
def zAh{L':LP}(h:zAg σ.L L'):Sub σ ⟨L',σ.M,σ.nk,σ.nt,σ.n0⟩:=λ_ ρ _ _ hr=>
 ⟨ρ,hr.size,hr.defers,λt s hl=>hr.regs t s (zmH h t s hl),hr.mem,hr.fresh,hr.stp,hr.keep,hr.low⟩
def zuq(t k:Nat){T:TypeId}{cs:LQ}(hl:z6 σ.L t=some (.loc k 0))(hk:(k,.box T cs)∈σ.M)(hv:∀c∈cs,∃v,c=.val v):
  Sub σ ⟨(t,.dptr cs)::σ.L,z5 σ.M k,σ.nk,σ.nt,σ.n0⟩:=λE ρ a w hr=>by
 obtain⟨hs,hm⟩:=hr.mem.let_go (M1:=z5 σ.M k) (λx hx=>kF x hx) (k7 hr.mem.keys);have own:∀b,Own (z5 σ.M k) ρ b->Own σ.M ρ b:=λb ⟨k,m,v,h1,h2,h3⟩=>⟨k,m,v,kF _ h1,h2,h3⟩
 refine⟨ρ,hr.size,hr.defers,λt' s h0=>?_,hm,hr.fresh,hr.stp.trans hs,hr.keep,hr.low⟩;have h:z6 ((t,SV.dptr cs)::σ.L) t'=some s:=h0;clear h0;rw[zK]at h
 split at h
 ·rename_i e;subst e;obtain rfl:=Xl h;obtain⟨g1,g2⟩:=hr.regs t _ hl;refine⟨g1,?_⟩;obtain⟨b,hρ,e⟩:=g2.loc_inv;obtain⟨b',vs,h1,h2,h3,h4,h5⟩:=hr.mem.rel k _ hk;rw[hρ]at h1;cases h1
  have hb:=hr.mem.old b ⟨k,_,_,hk,hρ,rfl⟩;rw[e];refine .d _ _ (.dptr _ b 0 (λj=>(vs[j]?).getD undef) hb.1 (λh=>?_) (λj hj=>?_) (λj s hs=>?_))
  ·rcases h with h|⟨k',m',v',h6,h7,h8⟩
   ·exact hb.2 h
   exact hr.mem.apart k _ k' m' _ v' b hk (kF _ h6) (λe=>yP hr.mem.keys _ h6 e.symm) hρ h7 rfl h8
  ·have hj':j<vs.length:=by omega
   rw[X9,zbm h2];simp only[Xa hj',KS];exact⟨tV,h4 _ (X5 hj')⟩
  obtain⟨v,rfl⟩:=hv s (Xf hs);have hj':j<vs.length:=by have:=(Xd.1 hs).1;omega
  have:=h5 j _ _ hs (Xa hj');rw[Xa hj',KS,this.val_inv];exact .val v
 exact⟨(hr.regs t' s h).1,(hr.regs t' s h).2.mono (Xi _) (λb _ hb=>⟨λh=>hb (h.imp id (own b)),rfl⟩) (λb _ hb=>⟨λh=>hb (own b h),rfl⟩) λ_ _ h=>h⟩
def zAi(a b:Rc):CX 78 [wq a,wq b] (pr (a.within b)):=by
 exact zd func78<|wd<|wg (znU a b)<|wg (zd5 a)<|wh<|zr zDu
def qrt(a:Rc):List Rc:=[⟨a.x0,a.y0,a.x0+(a.x1-a.x0)/2,a.y0+(a.y1-a.y0)/2⟩,⟨a.x0+(a.x1-a.x0)/2,a.y0,a.x1,a.y0+(a.y1-a.y0)/2⟩,
 ⟨a.x0,a.y0+(a.y1-a.y0)/2,a.x0+(a.x1-a.x0)/2,a.y1⟩,⟨a.x0+(a.x1-a.x0)/2,a.y0+(a.y1-a.y0)/2,a.x1,a.y1⟩]
def zsx(a:Rc)(h:1<a.area):CX 77 [wq a] (.sl rcE (qrt a)):=by
 have hm:¬a.mt:=λk=>by unfold Rc.area at h;rw[Rc.canon_pos k]at h;exact absurd h dC
 obtain⟨⟨⟨a1,a2⟩,⟨b1,b2⟩,⟨c1,c2⟩,d1,d2⟩,e1,e2⟩:=Rc.notmt hm;refine zd func77<|wd<|wa<|Dv.pos ⟨oM,dC,by show _<=(9223372036854775807:Int);omega⟩ ?_;(iterate 2 refine wa ?_);refine Dv.pos ⟨oM,dC,by show _<=(9223372036854775807:Int);omega⟩<|wa<|wh<|⟨Rc,rcE,qrt a,rfl,wb0 ?_⟩;exact kM rfl
def zfd(t:Qt)(f:Nat->Nat):(mdQ t f).length=t.w+1:=by
 have:=Xj List.length (zgq t f)
 rwa [Xz,Xz,Kc]at this
variable{j:Nat}
def zCP{s:Qt}(hj:j<4)(hw:(Qt.node a es p q r s).w<500):Inj ((Qt.node a es p q r s).kid j) (shQ id (3+j) ((Qt.node a es p q r s).base j))/\
  ∀y∈mdQ ((Qt.node a es p q r s).kid j) (shQ id (3+j) ((Qt.node a es p q r s).base j)),vT (mdQ (.node a es p q r s) id) 513 y.1=some y.2:=by
 obtain⟨b1,b2,b3⟩:=zcq a es p q r s j hj;refine⟨λx y hx hy h=>?_,λy hy=>?_⟩
 ·cases x <;> cases y <;> simp only[shQ,id]at h <;> omega
 obtain⟨x,hx,e⟩:=zaR hy
 have hlt:y.1<513:=by
  rw[e]
  cases x <;> simp only[shQ,id] <;> omega
 unfold vT;rw[zco hlt];exact zbp (zgr (zn6 _)) (uS.2 (.inr (.inr (.inr ⟨j,hj,hy⟩))))
def divK(a:Rc)(es:LU):Nat->SV
 |0=>.val (.slice none 0 0)
 |_+1=>.own 2
def divM(a:Rc)(es:LU)(j:Nat):LT:=(0,.box 98 (rcE a++[.own 1,divK a es j]))::(1,.arr 3 zN 1 es)::(match j with
 |0=>[]
 |j+1=>(2,.garr 79 1 ((List.range (j+1)).map λx=>[.loc (3+x) 0]))::(List.range (j+1)).map λx=>(3+x,.box 98 (rcE ((qrt a).getD x k8)++[.val (.slice none 0 0),.val (.slice none 0 0)])))
def zAj(t:Qt)(i:Int)(y:Nat×Mem):Prop:=y=(0,.box 98 (rcE t.area++[.own 514,t.kidR id]))∨y=(514,.arr 3 zN 1 (t.ents++[i]))∨(y∈mdQ t id/\y.1≠0/\y.1≠1)
def zAk(t:Qt)(hm:t.w<500)(i d:Int)(b:Rc)(M':LT)(hl:t.ents.length<=1000)(h:¬d<6∨¬1<t.area.area)(hpw:M'.Pairwise λa b=>a.1≠b.1)(hA:∀y∈M',zAj t i y):
  CG0 49 [.loc 0 0,i64 i,wq b,i64 d] (mdQ t id) (.tup []) M':=by
 obtain⟨a,es⟩|⟨a,es,p,q,r,s⟩:=t
 all_goals
  have hl:es.length<=1000:=hl;refine zdA 512 tok mix (by rw[zfd];omega) func49 rfl rfl rfl ?_;rw[zfd];refine⟨λc1=>?_,λc1=>?_⟩;refine wg (zka a)<|⟨λc2=>absurd h (λk=>k.elim (λk=>k c1) λk=>k c2),λc2=>?_⟩
  all_goals
   refine⟨Int,zN,[i],rfl,wb3 ?_⟩;refine⟨[i],rfl,Ob.mk ⟨by show((es.length:Int)+1)*8<=_;omega,by rw[Kk];omega,dC,λx hx=>by rw[Xu.1 hx];rfl⟩ ?_⟩;refine⟨_,zn7 (λy hy=>?_) hpw,rfl,.refl⟩
   rcases hA y hy with rfl|rfl|⟨h1,h2,h3⟩
   ·first|exact .head _|exact .tail _ (.head _)|exact .tail _ (.tail _ (.head _))|exact .tail _ (.tail _ (.tail _ (.head _)))
   ·first|exact .head _|exact .tail _ (.head _)|exact .tail _ (.tail _ (.head _))|exact .tail _ (.tail _ (.tail _ (.head _)))
   rcases XD.1 h1 with rfl|h1
   ·exact absurd rfl h2
   rcases XD.1 h1 with rfl|h1
   ·exact absurd rfl h3
   first|exact .tail _ (.tail _ h1)|exact .tail _ (.tail _ (.tail _ h1))|exact .tail _ (.tail _ (.tail _ (.tail _ h1)))
def zqJ(t:Qt){s:Qt}(hU:t.cut=.node a es p q r s)(hm:(Qt.node a es p q r s).w<500)(i d:Int)(b:Rc)(M':LT)(hl:es.length<=1000)(hd:0<=d/\d<6)(h1:1<a.area)(hpw:M'.Pairwise λa b=>a.1≠b.1)(hA:(∀j,j<4->¬b.within ((Qt.node a es p q r s).kid j).area)->∀y∈M',zAj (Qt.node a es p q r s) i y)(hC:∀j,j<4->b.within ((Qt.node a es p q r s).kid j).area->(∀k,k<j->¬b.within ((Qt.node a es p q r s).kid k).area)->∃t' f' N,(∀x,x<=t'.w->f' x<((Qt.node a es p q r s).kid j).w+1+N)/\
   CG0 49 [.loc 0 0,i64 i,wq b,i64 (d+1)] (mdQ ((Qt.node a es p q r s).kid j) id) (.tup []) (mdQ t' f')/\∀y∈M',y∈mdQ t' (λx=>rn (lab ((Qt.node a es p q r s).kid j) (shQ id (3+j) ((Qt.node a es p q r s).base j))) 513 (f' x))++
    jv (mdQ (.node a es p q r s) id) (lab ((Qt.node a es p q r s).kid j) (shQ id (3+j) ((Qt.node a es p q r s).base j)))):
  CG0 49 [.loc 0 0,i64 i,wq b,i64 d] (mdQ t id) (.tup []) M':=by
 have hrc:∀c∈rcE b,∃v,c=.val v:=λc hc=>by
  simp only[rcE,XD,XR,or_false]at hc
  rcases hc with rfl|rfl|rfl|rfl <;> exact⟨_,rfl⟩
 have kk:∀j,j<4->Inj ((Qt.node a es p q r s).kid j) (shQ id (3+j) ((Qt.node a es p q r s).base j))/\∀y∈mdQ ((Qt.node a es p q r s).kid j) (shQ id (3+j) ((Qt.node a es p q r s).base j)),vT (mdQ (Qt.node a es p q r s) id) 513 y.1=some y.2:=λj hj=>zCP hj hm
 obtain⟨U,hUU⟩:∃U,U=(Qt.node a es p q r s):=⟨_,rfl⟩;rw[←hUU]at hA hC kk
 obtain⟨a',es'⟩|⟨a',es',p',q',r',s'⟩:=t
 cases hU
 refine zdA 512 tok mix (by rw[zfd];show 1+1<=512;decide) func49 rfl rfl rfl<|Br.mk (λ_=>?_) (λk=>absurd hd.2 k);refine wg (zka a)<|⟨λ_=>?_,λk=>absurd h1 k⟩;refine we<|wg (zsx a h1) λhl2=>?_;refine⟨Nat,λj=>⟨[(34,i64 j),(33,i64 4),(32,.sl rcE (qrt a)),(6,.dptr (rcE b)),(3,i64 d),(1,i64 i),(0,.loc 0 0)],divM a es j,513,83,2⟩,λj=>j<=4,λj=>4-j,0,Xg _,?_,?_⟩
 ·exact(zuq 6 512 (T:=54) rfl (XW ..) hrc).trans (zAh ⟨rfl,rfl,rfl,rfl,rfl,rfl,rfl,tV⟩)
 rintro j hj
 have hj:j<=4:=hj;refine⟨λg:(j:Int)<4=>?_,λg=>?_⟩
 ·have hq:0<=(j:Int)/\(j:Int)<((qrt a).length:Int):=by show 0<=(j:Int)/\(j:Int)<(4:Nat);omega
  obtain⟨k,hk⟩:∃k,j+1=k:=⟨_,rfl⟩;obtain rfl|rfl|rfl|rfl:j=0∨j=1∨j=2∨j=3:=oM
  all_goals
   refine Ob.mk hq λx hx=>?_
   cases hx
   refine wd<|⟨[[.loc 514 0]],rfl,wb7 ?_⟩;refine Ob.mk ⟨dC,dC,dC⟩<|wh<|Ar.fit dC<|⟨k,oM,?_,oN⟩;subst hk
   first
   |exact zt [0,1,516,514] ⟨rfl,rfl,⟨_,rfl,rfl,λi x hx=>by rcases i with _|_|_|_|i <;> first|(cases hx;exact⟨_,rfl,rfl⟩)|cases hx⟩,rfl,tV⟩
   |exact zt [0,1,516,3,514] ⟨rfl,rfl,⟨_,rfl,rfl,λi x hx=>by rcases i with _|_|_|_|i <;> first|(cases hx;exact⟨_,rfl,rfl⟩)|cases hx⟩,rfl,rfl,tV⟩
   |exact zt [0,1,516,3,4,514] ⟨rfl,rfl,⟨_,rfl,rfl,λi x hx=>by rcases i with _|_|_|_|i <;> first|(cases hx;exact⟨_,rfl,rfl⟩)|cases hx⟩,rfl,rfl,rfl,tV⟩
   |exact zt [0,1,516,3,4,5,514] ⟨rfl,rfl,⟨_,rfl,rfl,λi x hx=>by rcases i with _|_|_|_|i <;> first|(cases hx;exact⟨_,rfl,rfl⟩)|cases hx⟩,rfl,rfl,rfl,rfl,tV⟩
 obtain rfl:j=4:=by have g:¬(j:Int)<4:=g;omega
 intro hl3;refine⟨Nat,λj=>⟨[(56,i64 j),(55,i64 4),(54,.own 2),(6,.dptr (rcE b)),(3,i64 d),(1,i64 i),(0,.loc 0 0)],mdQ U id,513,83,2⟩,λj=>j<=4/\∀k,k<j->¬b.within (U.kid k).area,λj=>4-j,0,⟨Xg _,λk h=>by omega⟩,?_,?_⟩
 ·subst hUU;exact zhw [(0,some 0),(1,some 1),(2,some 2),(3,some 3),(4,some 4),(5,some 5),(6,some 6),(7,none),(8,none),(9,none),(10,none)] ⟨rfl,rfl,⟨_,rfl,rfl,λi x hx=>by rcases i with _|_|_|_|i <;> first|(cases hx;exact⟨_,rfl,rfl⟩)|cases hx⟩,rfl,rfl,rfl,rfl,rfl,rfl,rfl,rfl,tV⟩
 rotate_left
 cases hU
 refine zdA 512 tok mix (by rw[zfd];omega) func49 rfl rfl rfl ?_;rw[zfd];refine⟨λ_=>?_,λk=>absurd hd.2 k⟩;refine wg (zka a)<|⟨λ_=>?_,λk=>absurd h1 k⟩;intro hl1;refine⟨λc3=>absurd c3 dC,λ_=>?_⟩;intro hl2;refine⟨Nat,λj=>⟨[(56,i64 j),(55,i64 4),(54,.own 2),(6,.dptr (rcE b)),(3,i64 d),(1,i64 i),(0,.loc 0 0)],mdQ U id,513,83,(Qt.node a es p q r s).w+1⟩,λj=>j<=4/\∀k,k<j->¬b.within (U.kid k).area,λj=>4-j,0,⟨Xg _,λk h=>by omega⟩,?_,?_⟩
 ·subst hUU;exact(zuq 6 512 (T:=54) rfl (XW ..) hrc).trans (zAh ⟨rfl,rfl,rfl,rfl,rfl,rfl,rfl,tV⟩)
 all_goals
  rintro j ⟨hj,hf⟩
  refine⟨λg:(j:Int)<4=>?_,λg:¬(j:Int)<4=>?_⟩
  ·have hk4:j<4:=oM;obtain⟨k1,k2⟩:=kk j hk4;have go:=hC j hk4;clear hC;have hw:=zAi b (U.kid j).area
   have ha:∀κ,LEs [.loc (3+j) 0,i64 i,wq b,i64 (d+1)] (uU.rens (lab (U.kid j) (shQ id (3+j) (U.base j))) κ [.loc 0 0,i64 i,wq b,i64 (d+1)]):=λκ=>by
    show LEs _ [.loc (rn _ κ 0) 0,i64 i,wq b,i64 (d+1)];rw[uJ (zcp (Xg _))];exact .refl
   clear kk hA;subst hUU;obtain⟨k,hk⟩:∃k,j+1=k:=⟨_,rfl⟩;obtain rfl|rfl|rfl|rfl:j=0∨j=1∨j=2∨j=3:=oM
   all_goals
    refine wb1<|wb1 λx hx=>?_
    cases hx
    refine wd<|wg hw<|wh<|⟨λc=>?_,λc=>?_⟩
    ·obtain⟨t',f',N,g1,g2,g3⟩:=go c hf;exact wa<|zmG k1 k2 g1 g2 (ha _) rfl<|⟨_,zn7 g3 hpw,rfl,.refl⟩
    refine Ar.fit dC<|⟨k,⟨oM,λi hi=>?_⟩,?_,oN⟩
    ·subst hk
     rcases Ja.1 hi with h|h
     ·exact hf i h
     rw[h];exact c
    subst hk;exact zAh ⟨rfl,rfl,rfl,rfl,rfl,rfl,rfl,tV⟩
  have hA:=hA λk hk=>hf k oM
  clear kk hC;subst hUU;refine⟨Int,zN,[i],rfl,wb3 ?_⟩;refine⟨[i],rfl,Ob.mk ⟨by show((es.length:Int)+1)*8<=_;omega,by rw[Kk];omega,dC,λx hx=>by rw[Xu.1 hx];rfl⟩ ?_⟩;refine⟨_,zn7 (λy hy=>?_) hpw,rfl,.refl⟩
  rcases hA y hy with rfl|rfl|⟨h1,h2,h3⟩
  ·first|exact .head _|exact .tail _ (.head _)|exact .tail _ (.tail _ (.head _))|exact .tail _ (.tail _ (.tail _ (.head _)))
  ·first|exact .head _|exact .tail _ (.head _)|exact .tail _ (.tail _ (.head _))|exact .tail _ (.tail _ (.tail _ (.head _)))
  rcases XD.1 h1 with rfl|h1
  ·exact absurd rfl h2
  rcases XD.1 h1 with rfl|h1
  ·exact absurd rfl h3
  first|exact .tail _ (.tail _ h1)|exact .tail _ (.tail _ (.tail _ h1))|exact .tail _ (.tail _ (.tail _ (.tail _ h1)))
def zhi(x:Nat):Nat:=if x=1 then 514 else x
def zur(h:x≠1):zhi x=x:=Xb h
def zhj(t:Qt)(i:Int):(t.push i).w=t.w:=by cases t <;> rfl
def zqK{t:Qt}(h:t.w<500):Inj t zhi:=λx y hx hy e=>by
 unfold zhi at e
 split at e <;> split at e <;> omega
variable{i:Int}
def zqL{t:Qt}(h:t.w<500):∀y∈mdQ (t.push i) zhi,zAj t i y:=by
 intro y hy
 obtain⟨a,es⟩|⟨a,es,p,q,r,s⟩:=t
 ·rcases XD.1 hy with rfl|hy
  ·exact .inl rfl
  rw[Xu.1 hy];exact .inr (.inl rfl)
 have bf:=zcq a es p q r s
 rcases uS.1 hy with rfl|rfl|rfl|⟨k,hk,hy⟩
 ·exact .inl rfl
 ·exact .inr (.inl rfl)
 ·exact .inr (.inr ⟨uS.2 (.inr (.inr (.inl rfl))),by show zhi 2≠0;decide,by show zhi 2≠1;decide⟩)
 have hy:y∈mdQ ((Qt.node a es p q r s).kid k) (shQ zhi (3+k) ((Qt.node a es p q r s).base k)):=by
  obtain rfl|rfl|rfl|rfl:k=0∨k=1∨k=2∨k=3:=oM
  all_goals exact hy
 obtain⟨b1,b2,b3⟩:=bf k hk;rw[y4 _ (g:=shQ id (3+k) ((Qt.node a es p q r s).base k)) λx hx=>?_]at hy
 ·obtain⟨x,hx,e⟩:=zaR hy;refine .inr (.inr ⟨uS.2 (.inr (.inr (.inr ⟨k,hk,hy⟩))),?_,?_⟩ ) <;> rw[e] <;> cases x <;> simp only[shQ,id] <;> omega
 cases x with
 |zero=>exact zur oM
 |succ x=>exact zur oM
def zCQ{s:Qt}(hj:j<4):((Qt.node a es p q r s).kid j).all.length<=(Qt.node a es p q r s).all.length:=by
 obtain rfl|rfl|rfl|rfl:j=0∨j=1∨j=2∨j=3:=oM
 all_goals simp only[Qt.kid,Qt.all,Xp];omega
def zqM(t:Qt):t.ents.length<=t.all.length:=by
 cases t with
 |leaf a es=>exact Xi _
 |node a es p q r s=>simp only[Qt.ents,Qt.all,Xp];omega
def zDG(t:Qt):t.cut.w<=t.w+9:=by
 cases t with
 |leaf a es=>exact Xi _
 |node a es p q r s=>exact JC _ _
def zmI(P:LG)[DecidablePred P]:∀n,(∃j,j<n/\P j/\∀k,k<j->¬P k)∨∀j,j<n->¬P j
 |0=>.inr λj h=>oM
 |n+1=>by
  obtain⟨j,h1,h2⟩|h:=zmI P n
  ·exact .inl ⟨j,oM,h2⟩
  by_cases c:P n
  ·exact .inl ⟨n,oM,c,h⟩
  refine .inr λj hj=>?_
  rcases Ja.1 hj with k|k
  ·exact h j k
  rw[k];exact c
def zsy{t:Qt}{s:Qt}{b:Rc}{n:Nat}(ha:¬t.area.area<=1)(e:t.cut=.node a es p q r s):t.ins i b (n+1)=if b.within p.area then .node a es (p.ins i b n) q r s else if b.within q.area then .node a es p (q.ins i b n) r s
  else if b.within r.area then .node a es p q (r.ins i b n) s else if b.within s.area then .node a es p q r (s.ins i b n) else .node a (es++[i]) p q r s:=by
 rw[Qt.ins,Xb ha,e]
def zFr(i:Int)(b:Rc):∀(n:Nat) (t:Qt),n<=6->t.w+9*n<490->t.all.length<=1000->∃F N,F 0=0/\Inj (t.ins i b n) F/\(∀x,x<=(t.ins i b n).w->F x<t.w+1+N)/\
  CG0 49 [.loc 0 0,i64 i,wq b,i64 (6-(n:Int))] (mdQ t id) (.tup []) (mdQ (t.ins i b n) F):=by
 have push:∀(t:Qt) (n:Nat),t.w<490->t.all.length<=1000->(¬(6-(n:Int))<6∨¬1<t.area.area)->∃F N,F 0=0/\Inj (t.push i) F/\(∀x,x<=(t.push i).w->F x<t.w+1+N)/\
   CG0 49 [.loc 0 0,i64 i,wq b,i64 (6-(n:Int))] (mdQ t id) (.tup []) (mdQ (t.push i) F):=λt n hw hl h=>by
  have hi:Inj (t.push i) zhi:=zqK (by rw[zhj];omega);refine⟨zhi,514,rfl,hi,λx hx=>?_,zAk t oM i _ b _ (XE (zqM t) hl) h (zgr hi) (zqL oM)⟩;rw[zhj]at hx;unfold zhi
  split <;> omega
 intro n
 induction n with
 |zero=>exact λt _ hw hl=>push t 0 oM hl (.inl oM)
 |succ n ih=>
  intro t hn hw hl
  by_cases ha:t.area.area<=1
  ·rw[show t.ins i b (n+1)=t.push i from Xe ha];exact push t (n+1) oM hl (.inr oM)
  obtain⟨p,q,r,s,e,ea⟩:=t.cut_is;have hw2:=zDG t;have hl2:(Qt.node t.area t.ents p q r s).all.length<=1000:=by rw[←e,ea];exact hl
  rw[e]at hw2;have hle:=XE (zqM t) hl
  rcases zmI (λj=>b.within ((Qt.node t.area t.ents p q r s).kid j).area) 4 with⟨j,hj,hf,hlt⟩|none
  ·have eins:t.ins i b (n+1)=(Qt.node t.area t.ents p q r s).put j (((Qt.node t.area t.ents p q r s).kid j).ins i b n):=by
    rw[zsy ha e];obtain rfl|rfl|rfl|rfl:j=0∨j=1∨j=2∨j=3:=oM
    ·exact Xe hf
    ·exact(Xb (hlt 0 oM)).trans (Xe hf)
    ·exact(Xb (hlt 0 oM)).trans ((Xb (hlt 1 oM)).trans (Xe hf))
    exact(Xb (hlt 0 oM)).trans ((Xb (hlt 1 oM)).trans ((Xb (hlt 2 oM)).trans (Xe hf)))
   obtain⟨b1,b2,b3⟩:=zcq t.area t.ents p q r s j hj;obtain⟨f',N,h0,inj,hN,hc⟩:=ih ((Qt.node t.area t.ents p q r s).kid j) oM oM (XE (zCQ hj) hl2);obtain⟨F,F0,_,Finj,Fb,Fm⟩:=zwr (κ:=513) rfl hj rfl rfl rfl oM h0 inj hN;rw[eins];refine⟨F,513+N,F0,Finj,λx hx=>by have:=Fb x hx;omega,zqJ t e oM i _ b _ hle ⟨oM,oM⟩ oM (zgr Finj) (λh=>absurd hf (h j hj)) λj' hj' hf' hlt'=>?_⟩
   obtain rfl:j'=j:=by
    rcases Qs j' j with c|c|c
    ·exact absurd hf' (hlt j' c)
    ·exact c
    exact absurd hf (hlt' j c)
   refine⟨_,f',N,hN,?_,Fm⟩;rw[show(6:Int)-((n+1:Nat):Int)+1=6-(n:Int) by omega];exact hc
  have eins:t.ins i b (n+1)=(Qt.node t.area t.ents p q r s).push i:=by
   rw[zsy ha e];exact(Xb (none 0 oM)).trans ((Xb (none 1 oM)).trans ((Xb (none 2 oM)).trans (Xb (none 3 oM))))
  have hi:Inj ((Qt.node t.area t.ents p q r s).push i) zhi:=zqK (by rw[zhj];omega);rw[eins];refine⟨zhi,514,rfl,hi,λx hx=>?_,zqJ t e oM i _ b _ hle ⟨oM,oM⟩ oM (zgr hi) (λ_=>zqL oM) λj' hj' hf' _=>absurd hf' (none j' hj')⟩;rw[zhj]at hx;unfold zhi
  split <;> omega
def qtE:Qt->LQ
 |.leaf a es=>rcE a++[.sl zN es,.val (.slice none 0 0)]
 |.node a es p q r s=>rcE a++[.sl zN es,.sl (λj:Nat=>[.dptr (match j with
  |0=>qtE p
  |1=>qtE q
  |2=>qtE r
  |_=>qtE s)]) (List.range 4)]
end
section
variable{Keep:LG}{M:LT}{ρ:ze}{w:World}
def zFs(hm:zB Keep M ρ w){k:Nat}{T:TypeId}{sz:Nat}{xs:LM}(hk:(k,Mem.garr T sz xs)∈M){enc:Nat->LQ}(hl:∀i x,xs[i]?=some x->(enc i).length=sz)(hd:∀(i j:Nat) x s s' u,xs[i]?=some x->x[j]?=some s->(enc i)[j]?=some s'->G (λb=>Keep b∨Own M ρ b) (Own M ρ) ρ w s u->D Keep w s' u){v:Value}(hv:ρ k=some v):D Keep w (.sl enc (List.range xs.length)) v:=by
 obtain⟨v',cells,hρ,hown,hlen,hone,hesz,hcells⟩:=hm.rel k _ hk;rw[hv]at hρ;cases hρ
 obtain⟨rfl,h0⟩|⟨g,cap,cur,rfl,_,hheap,hnc,hcm,hcs,htake⟩:=hown.2
 ·have:xs=[]:=Xo h0;subst this;exact .nil enc _
 have hcl:=hown.1
 have hc:∀i j,i<xs.length->j<sz->∃u,cells[i*sz+j]?=some u:=λi j hi hj=>by
  have h1:i*sz+sz<=xs.length*sz:=by
   have:=Xs sz (X3 hi);rw[X4]at this;exact this
  exact⟨_,Xa (show i*sz+j<cells.length by omega)⟩
 have hg:=hm.old g ⟨k,_,_,hk,hv,rfl⟩;have:=D.sl (S:=Keep) (w:=w) enc (List.range xs.length) sz g 0 cap (λi j=>(cells[i*sz+j]?).getD undef) hg.1 hg.2 (by rw[Kc];omega) (by rw[Kc];exact hnc) (λx hx=>?_) (λi j hi hj=>?_) (λi j x s hx hs=>?_)
 ·rwa [Kc]at this
 ·exact hl x _ (Xa (XT.1 hx))
 ·rw[Kc]at hi;obtain⟨u,hu⟩:=hc i j hi hj;rw[hu];refine⟨?_,hone u (Xf hu)⟩;have:=zam hheap htake hu
  simpa[X9] using this
 have hi:i<xs.length:=by
  have:=(Xd.1 hx).1
  rwa [Kc]at this
 rw[KT hi]at hx;obtain rfl:=Xl hx;have e:=Xa hi
 have hj:j<xs[i].length:=by
  have h1:=hl i _ e;have h2:=(Xd.1 hs).1;have h3:=hesz _ (X5 hi);omega
 obtain⟨u,hu,hg⟩:=hcells i j _ _ e (Xa hj);rw[hu];exact hd i j _ _ s u e (Xa hj) hs hg
def zAl(hm:zB Keep M ρ w){k b:Nat}{T:TypeId}{cs cs':LQ}(hk:(k,Mem.box T cs)∈M)(hρ:ρ k=some (.pointer (some ⟨b,0,none⟩)))(hl:cs'.length=cs.length)(hd:∀(j:Nat) s s' u,cs[j]?=some s->cs'[j]?=some s'->G (λb=>Keep b∨Own M ρ b) (Own M ρ) ρ w s u->D Keep w s' u):D Keep w (.dptr cs') (.pointer (some ⟨b,0,none⟩)):=by
 obtain⟨b',vs,h1,h2,h3,h4,h5⟩:=hm.rel k _ hk;rw[hρ]at h1;cases h1
 have hb:=hm.old b ⟨k,_,_,hk,hρ,rfl⟩;refine .dptr _ b 0 (λj=>(vs[j]?).getD undef) hb.1 hb.2 (λj hj=>?_) (λj s hs=>?_)
 ·have hj':j<vs.length:=by omega
  rw[X9,zbm h2];simp only[Xa hj',KS];exact⟨tV,h4 _ (X5 hj')⟩
 have hj:j<cs.length:=by have:=(Xd.1 hs).1;omega
 have hj':j<vs.length:=oM;rw[Xa hj',KS];exact hd j _ s _ (Xa hj) hs (h5 j _ _ (Xa hj) (Xa hj'))
def zFt(hm:zB Keep M ρ w):∀(t:Qt) (F:Nat->Nat),(∀y∈mdQ t F,y∈M)->∀b,ρ (F 0)=some (.pointer (some ⟨b,0,none⟩))->D Keep w (.dptr (qtE t)) (.pointer (some ⟨b,0,none⟩)):=by
 have zkP:∀{T sz} {es:LU} {k:Nat},(k,Mem.arr T zN sz es)∈M->∀u,G (λb=>Keep b∨Own M ρ b) (Own M ρ) ρ w (.own k) u->D Keep w (.sl zN es) u:=λ{T sz es k} hk u hg=>
  zej hm hk (λb hb=>.inl hb) (λv b hv hb hk'=>(hm.old b ⟨k,_,v,hk,hv,hb⟩).2 hk') hg.own_inv.1
 intro t
 induction t with
 |leaf a es=>
  intro F hF b hρ;refine zAl hm (hF _ (XW ..)) hρ rfl λj s s' u hs hs' hg=>?_
  rcases j with _|_|_|_|_|_|j
  all_goals first
   |(cases hs;cases hs';rw[hg.val_inv];exact .val _)
   |(cases hs;cases hs';exact zkP (hF _ (XO _ (XW ..))) u hg)
   |cases hs
 |node a es p q r s hp hq hr hs=>
  intro F hF b hρ;have mem:∀y,_->y∈M:=λy h=>hF y (zkG.2 h)
  refine zAl hm (hF _ (XW ..)) hρ rfl λj s0 s' u hs0 hs' hg=>?_
  rcases j with _|_|_|_|_|_|j
  all_goals first
   |(cases hs0;cases hs';rw[hg.val_inv];exact .val _)
   |(cases hs0;cases hs';exact zkP (mem _ (.inr (.inl rfl))) u hg)
   |skip
  ·cases hs0
   cases hs'
   refine zFs hm (mem _ (.inr (.inr (.inl rfl)))) (λi x _=>rfl) (λi j x s s' u hx hs1 hs2 hg=>?_) hg.own_inv.1
   obtain rfl:j=0:=by
    have:=(Xd.1 hs2).1;have:j<1:=this;omega
   obtain rfl:=Xl hs2
   rcases i with _|_|_|_|i
   ·cases hx;cases hs1
    obtain⟨b',h1,rfl⟩:=hg.loc_inv;exact hp _ (λy hy=>mem y (.inr (.inr (.inr (.inl hy))))) b' h1
   ·cases hx;cases hs1
    obtain⟨b',h1,rfl⟩:=hg.loc_inv;exact hq _ (λy hy=>mem y (.inr (.inr (.inr (.inr (.inl hy)))))) b' h1
   ·cases hx;cases hs1
    obtain⟨b',h1,rfl⟩:=hg.loc_inv;exact hr _ (λy hy=>mem y (.inr (.inr (.inr (.inr (.inr (.inl hy))))))) b' h1
   ·cases hx;cases hs1
    obtain⟨b',h1,rfl⟩:=hg.loc_inv;exact hs _ (λy hy=>mem y (.inr (.inr (.inr (.inr (.inr (.inr hy))))))) b' h1
   cases hx
  cases hs0
end
def endW(Γ:LS)(rs:List ResultVar)(r:SV)(e:Ex)(σ:St):Prop:=
 match e with
 |.exit _=>False
 |_=>zal σ Γ rs λs=>∀(Keep:LG) (ρ:ze) (w:World) (v:Value),zB Keep σ.M ρ w->G (λb=>Keep b∨Own σ.M ρ b) (Own σ.M ρ) ρ w s v->G (λb=>Keep b∨Own [] ρ b) (Own [] ρ) ρ w r v
def zsz{P:Program}{Γ:LS}(hT:TOK P Γ)(hm:P.follows .mixedOrders=true){f:FuncId}{fn:Func}{c:Code}{args:LQ}{r:SV}(hf:P.funcs[f]?=some fn)(hb:fn.body=some c)(hn:(fn.name== "runtime.NumGoroutine")=false) (hle:Nat.ble args.length fn.ntmps=true)
  (h:qS P Γ c ⟨qI 0 args,[],0,fn.ntmps,0⟩ (endW Γ fn.results.toList r)):kK P f args [] r []:=by
 refine u5 hT hm hf hb hn hle h (λe σ h=>⟨σ,.refl,h⟩) (λe σ hq he=>?_) (λid σ hq=>hq)
 have hq:zal σ Γ fn.results.toList λs=>∀(Keep:LG) (ρ:ze) (w:World) (v:Value),zB Keep σ.M ρ w->G (λb=>Keep b∨Own σ.M ρ b) (Own σ.M ρ) ρ w s v->G (λb=>Keep b∨Own [] ρ b) (Own [] ρ) ρ w r v:=by
  cases e with
  |exit id=>exact absurd rfl (he id)
  |normal=>exact hq
  |ret=>exact hq
 obtain⟨s,hle,h1⟩:=jb hT hq;refine⟨s,h1,λ{E ρ a w v} hr hW _ hg=>⟨ρ,?_,?_,?_⟩⟩
 ·have hs:=hr.stp;exact⟨hs.os,hs.tape,hs.output,hs.size,λb hb hn=>hs.block b hb λh=>hn ((hW b).1 h),λb hb=>absurd hb zF,hs.rho⟩
 ·exact(kS hr.mem.kp λ_ _ h=>hr.mem.glc h)
 exact hle _ _ _ _ hr.mem hg
def zk6(ks:LB)(n:Nat)(ρ:ze):ze:=λk=>if k<n then ρ (rn ks 0 k) else none
structure zhW (ks:LB) (n:Nat) (M M':LT):Prop where
 inj:∀x y,x<n->y<n->rn ks 0 x=rn ks 0 y->x=y
 pw:M'.Pairwise λa b=>a.1≠b.1
 mem:∀y∈M',y.1<n/\zod n y.2/\(rn ks 0 y.1,zgu ks 0 y.2)∈M
section
variable{ks:LB}{n:Nat}{M M':LT}{Keep:LG}{ρ:ze}{w:World}
def zn9{k:Nat}{v:Value}(hk:k<n)(h:ρ (rn ks 0 k)=some v):zk6 ks n ρ k=some v:=(Xe hk).trans h
def zoa{k:Nat}{v:Value}(h:zk6 ks n ρ k=some v):k<n/\ρ (rn ks 0 k)=some v:=by
 unfold zk6 at h
 split at h
 ·exact⟨‹_›,h⟩
 cases h
def zhW.own(h:zhW ks n M M'){b:Nat}(hb:Own M' (zk6 ks n ρ) b):Own M ρ b:=by
 obtain⟨k,m,v,h1,h2,h3⟩:=hb;exact⟨_,_,v,(h.mem _ h1).2.2,(zoa h2).2,h3⟩
def zhW.ok(h:zhW ks n M M')(hm:zB Keep M ρ w):zB Keep M' (zk6 ks n ρ) w:=by
 have hs:Stp (Own M ρ) (Own M' (zk6 ks n ρ)) (zk6 ks n ρ) (zk6 ks n ρ) w w:=⟨rfl,rfl,.refl _,Xi _,λ_ _ _=>rfl,λb hb=>.inl (h.own hb),λ_ _ h=>h⟩;refine⟨λk m hk=>?_,h.pw,λk m k' m' v v' b h1 h2 hne h3 h4 h5=>?_,λb hb=>hm.old b (h.own hb),hm.kp,hm.glO λb hb=>h.own hb⟩
 ·obtain⟨h1,h2,h3⟩:=h.mem _ hk;exact(zlk (λ_ h=>h) (λk v hk hv=>zn9 hk hv) h1 h2 (hm.rel _ _ h3)).keep hs rfl (λ_ _ _ _=>rfl)
 obtain⟨c1,d1⟩:=zoa h3;obtain⟨c2,d2⟩:=zoa h4;exact hm.apart _ _ _ _ v v' b (h.mem _ h1).2.2 (h.mem _ h2).2.2 (λe=>hne (h.inj k k' c1 c2 e)) d1 d2 h5
end
section
variable{ks:LB}
def zAm{σ:St}{L':LP}{M':LT}{n nk:Nat}(h0:σ.n0=0)(hnk:n<=nk)(h:zhW ks n σ.M M')(hL:∀t s,z6 L' t=some s->y8 n s=true/\z6 σ.L t=some (uU ks 0 s)):Sub σ ⟨L',M',nk,σ.nt,σ.n0⟩:=λE ρ a w hr=>by
 refine⟨zk6 ks n ρ,hr.size,hr.defers,λt s hl=>?_,h.ok hr.mem,λk hk=>?_,?_,hr.keep,hr.low⟩
 ·obtain⟨h1,h2⟩:=hL t s hl;obtain⟨g1,g2⟩:=hr.regs t _ h2;exact⟨g1,(zfs (λ_ h=>h) (λk v hk hv=>zn9 hk hv) s h1 g2).mono (Xi _) (λb _ hb=>⟨λk=>hb (k.imp id h.own),rfl⟩) (λb _ hb=>⟨λk=>hb (h.own k),rfl⟩) λ_ _ h=>h⟩
 ·exact Xb (by have hk:nk<=k:=hk;omega)
 have hs:=hr.stp;exact⟨hs.os,hs.tape,hs.output,hs.size,hs.block,λb hb=>hs.own b (h.own hb),λk v h=>absurd (hr.low k v h) (by rw[h0];omega)⟩
def zqN{P:Program}{f:FuncId}{args:LQ}{M M' M'':LT}{ks:LB}{n:Nat}(h:kK P f args M (.tup []) M')(hid:∀k,k<M.length->rn ks 0 k=k)(hn:M.length<=n)(ht:zhW ks n M' M''):
  kK P f args M (.tup []) M'':=by
 refine⟨h.1,λKeep ρ w vs hk hm hρ hg=>(h.2 Keep ρ w vs hk hm hρ hg).mono λ_ w' ⟨v,ρ1,e,hs,hm',hgr⟩=>?_⟩;obtain⟨us,rfl,hus⟩:=hgr.tup_inv;refine⟨_,zk6 ks n ρ1,e,⟨hs.os,hs.tape,hs.output,hs.size,hs.block,λb hb=>hs.own b (ht.own hb),λk v hv=>?_⟩,ht.ok hm',.tup [] us hus.1 λj s v hj=>by cases hj⟩
 rcases X7 k M.length with c|c
 ·exact zn9 oM (by rw[hid k c];exact hs.rho k v hv)
 rw[hρ k c]at hv;cases hv
def kR(s:Sc):Nat->Qt
 |0=>.leaf (arN s s.ns.length) []
 |k+1=>if ((bxN s s.ns.length).getD k k8).mt then kR s k else(kR s k).ins k ((bxN s s.ns.length).getD k k8) 6
def ixT(s:Sc):LQ:=scE s++[.sl rcE (bxN s s.ns.length),.dptr (qtE (kR s s.ns.length))]
def put_w(t:Qt)(i:Int)(b:Rc):∀(n:Nat),(t.ins i b n).w<=t.w+9*n:=by
 intro n
 induction n generalizing t with
 |zero=>exact YJ (zhj t i)
 |succ n ih=>
  by_cases ha:t.area.area<=1
  ·rw[show t.ins i b (n+1)=t.push i from Xe ha,zhj];omega
  obtain⟨p,q,r,s,e,_⟩:=t.cut_is;have hc:=zDG t;rw[e]at hc;have hw:(Qt.node t.area t.ents p q r s).w=6+p.w+q.w+r.w+s.w:=rfl;have i1:=ih p;have i2:=ih q;have i3:=ih r;have i4:=ih s;rw[zsy ha e]
  repeat' split
  all_goals simp only[Qt.w];omega
def zsA(s:Sc):∀k,(kR s k).w<=1+54*k
 |0=>Xi _
 |k+1=>by
  have ih:=zsA s k;unfold kR
  split
  ·omega
  exact XE (put_w _ _ _ 6) oM
def zkI(s:Sc):∀k,(kR s k).all.length<=k
 |0=>Xi _
 |k+1=>by
  have ih:=zkI s k;unfold kR
  split
  ·omega
  rw[(zcn _ _ _ _).length_eq];exact Nat.succ_le_succ ih
def zFu(i:Int)(b:Rc)(n:Nat)(t:Qt)(hn:n<=6)(hw:t.w+9*n<490)(hl:t.all.length<=1000):∃F N,F 0=0/\Inj (t.ins i b n) F/\(∀x,x<=(t.ins i b n).w->F x<t.w+1+N)/\
  (∀z,t.w+1<=z->z<t.w+1+N->∃x,x<=(t.ins i b n).w/\F x=z)/\
  CG0 49 [.loc 0 0,i64 i,wq b,i64 (6-(n:Int))] (mdQ t id) (.tup []) (mdQ (t.ins i b n) F):=by
 obtain⟨F,N,h0,inj,hN,hc⟩:=zFr i b n t hn hw hl;obtain⟨u,hu⟩:∃u,u=t.ins i b n:=⟨_,rfl⟩;rw[←hu]at inj hN hc ⊢;obtain⟨news,hnews⟩:∃news,news=(List.range (u.w+1)).filter λx=>decide (t.w<F x):=⟨_,rfl⟩
 have hmem:∀x,x∈news↔x<=u.w/\t.w<F x:=λx=>by
  rw[hnews,QB,XT,decide_eq_true_iff];exact⟨λh=>⟨oM,h.2⟩,λh=>⟨oM,h.2⟩⟩
 have hnd:news.Nodup:=by rw[hnews];exact List.nodup_range.filter _
 obtain⟨F2,hF2⟩:∃F2:Nat->Nat,F2=λx=>if F x<=t.w then F x else t.w+1+news.idxOf x:=⟨_,rfl⟩
 have old:∀x,F x<=t.w->F2 x=F x:=λx h=>by rw[hF2];exact Xe h
 have new:∀x,¬F x<=t.w->F2 x=t.w+1+news.idxOf x:=λx h=>by rw[hF2];exact Xb h
 obtain⟨ks,hks⟩:∃ks,ks=List.range (t.w+1)++news.map F:=⟨_,rfl⟩
 have r1:∀k,k<=t.w->rn ks 0 k=k:=λk h=>uJ (by
  rw[hks,XH (by rw[Kc];omega),KT oM])
 have r2:∀j (h:j<news.length),rn ks 0 (t.w+1+j)=F news[j]:=λj h=>uJ (by
  rw[hks,XB (by rw[Kc];omega),Kc,show t.w+1+j-(t.w+1)=j by omega,XA,Xa h];rfl)
 have ix:∀x,x<=u.w->¬F x<=t.w->∃h:news.idxOf x<news.length,news[news.idxOf x]=x:=λx h1 h2=>by
  have h:=List.idxOf_lt_length_iff.2 ((hmem x).2 ⟨h1,oM⟩);exact⟨h,List.getElem_idxOf h⟩
 have back:∀x,x<=u.w->rn ks 0 (F2 x)=F x:=λx hx=>by
  by_cases c:F x<=t.w
  ·rw[old x c,r1 _ c]
  obtain⟨h1,h2⟩:=ix x hx c;rw[new x c,r2 _ h1,h2]
 have lt:∀x,x<=u.w->F2 x<t.w+1+news.length:=λx hx=>by
  by_cases c:F x<=t.w
  ·rw[old x c];omega
  obtain⟨h1,h2⟩:=ix x hx c;rw[new x c];omega
 have inj2:Inj u F2:=λx y hx hy e=>inj x y hx hy (by rw[←back x hx,←back y hy,e])
 have hz:F 0<=t.w:=oM;refine⟨F2,news.length,(old 0 hz).trans h0,inj2,lt,λz h1 h2=>?_,zqN (n:=t.w+1+news.length) hc (λk hk=>r1 k (by rw[zfd]at hk;omega)) (by rw[zfd];omega) ⟨λx y hx hy e=>?_,zgr inj2,λy hy=>⟨?_,(zdz u lt y hy).1,?_⟩⟩⟩
 ·obtain⟨j,rfl⟩:∃j,z=t.w+1+j:=⟨z-(t.w+1),oM⟩;have hj:j<news.length:=oM;have hm:=(hmem _).1 (X5 hj);exact⟨news[j],hm.1,by rw[new _ oM,hnd.idxOf_getElem j hj]⟩
 ·have val:∀z,z<t.w+1+news.length->(z<=t.w/\rn ks 0 z=z)∨∃j,∃h:j<news.length,z=t.w+1+j/\rn ks 0 z=F news[j]/\t.w<F news[j]:=λz hz=>by
   rcases X7 t.w z with c|c
   ·obtain⟨j,rfl⟩:∃j,z=t.w+1+j:=⟨z-(t.w+1),oM⟩;have hj:j<news.length:=oM;exact .inr ⟨j,hj,rfl,r2 j hj,((hmem _).1 (X5 hj)).2⟩
   exact .inl ⟨c,r1 z c⟩
  obtain⟨a1,a2⟩|⟨j,hj,a1,a2,a3⟩:=val x hx <;> obtain⟨b1,b2⟩|⟨k,hk,b1,b2,b3⟩:=val y hy
  ·omega
  ·omega
  ·omega
  have e2:=inj news[j] news[k] ((hmem _).1 (X5 hj)).1 ((hmem _).1 (X5 hk)).1 oM;have e3:j=k:=by rw[←hnd.idxOf_getElem j hj,←hnd.idxOf_getElem k hk,e2]
  omega
 ·obtain⟨x,hx,e⟩:=zaR hy;rw[e];exact lt x hx
 have e:yk ks 0 (mdQ u F2)=mdQ u F:=by rw[zn5];exact y4 u back
 rw[←e];exact zbo hy
def zkJ:∀{n:Nat} {K:LG},K n->zog n K
 |0,_,h=>h
 |n+1,K,h=>show zog n _ from zkJ (n:=n) (K:=λm=>K (m+1)) h
def zus{ks:LB}{κ nn:Nat}:∀{l:LT},(∀y∈l,y.1∈ks∨(κ<=y.1/\y.1<κ+nn))->zqZ ks κ nn l=true
 |[],_=>rfl
 |(k,m)::r,h=>by
  show jN (zkO k ks||(Nat.ble κ k&&Nat.blt k (κ+nn))) (zqZ ks κ nn r)=true;rw[zus λy hy=>h y (XO _ hy)]
  rcases h _ (XW ..) with h|⟨h1,h2⟩
  ·rw[zft h];rfl
  rw[Yv h1,zco h2,Bool.and_self,Bool.or_true];rfl
def zmJ{k:Nat}:∀{l:LT},k∈l.map (·.1)->zeG k l=true
 |(q,m)::r,h=>by
  unfold zeG
  split
  ·rfl
  rename_i e
  rcases XD.1 h with h|h
  ·rw[h,K4]at e;cases e
  exact zmJ h
def zqO{new:LT}{κ:Nat}:∀{n:Nat},(∀z,κ<=z->z<κ+n->z∈new.map (·.1))->zeH new κ n=true
 |0,_=>rfl
 |n+1,h=>by
  show jN (zeG (κ+n) new) (zeH new κ n)=true;rw[zmJ (h (κ+n) oM oM),zqO λz h1 h2=>h z h1 oM];rfl
def zFv{κ nn:Nat}{new:LT}{K:Prop}(h:∀y∈new,y.1∈ks∨(κ<=y.1/\y.1<κ+nn))(hc:∀z,κ<=z->z<κ+nn->z∈new.map (·.1))(k:K):mdD κ (.give ks new nn) K:=by
 show zJ (jN (zqZ ks κ nn new) (zeH new κ nn)) K;rw[zus h,zqO hc];exact k
def ixM(s:Sc)(t:Qt)(F:Nat->Nat):LT:=(0,.box 81 (scE s++[.own 1,.loc 2 0]))::(1,.arr 54 rcE 4 (bxN s s.ns.length))::mdQ t F
def zCR{s:Sc}{t:Qt}{m0:Mem}(h:t.w<500):∀y∈mdQ t (λx=>2+x),lmU none 601 (vT ((600,m0)::ixM s t λx=>2+x) 601) y.1=some y.2:=λy hy=>by
 obtain⟨x,hx,e⟩:=zaR hy;have e:y.1=2+x:=e;have hb:Nat.blt y.1 601=true:=zco oM;unfold lmU zct vT;rw[hb];show zH ((600,m0)::ixM s t λx=>2+x) y.1=some y.2;unfold ixM;rw[kj,Xb oM,kj,Xb oM,kj,Xb oM];exact zbp (zgr λx y _ _ e=>by have e:2+x=2+y:=e;omega) hy
def zDH{s:Sc}{t:Qt}:(ixM s t λx=>2+x).Pairwise λa b=>a.1≠b.1:=by
 have k:∀y∈mdQ t (λx=>2+x),2<=y.1:=λy hy=>by
  obtain⟨x,hx,e⟩:=zaR hy;have e:y.1=2+x:=e;omega
 unfold ixM;refine XY.2 ⟨λy hy=>?_,XY.2 ⟨λy hy=>?_,zgr λx y _ _ e=>by have e:2+x=2+y:=e;omega⟩⟩
 ·rcases XD.1 hy with rfl|hy
  ·show(0:Nat)≠1;omega
  have:=k y hy;show 0≠y.1;omega
 have:=k y hy;show 1≠y.1;omega
def zut{s:Sc}{t':Qt}{F:Nat->Nat}{A:LT}(h0:F 0=2)(inj:Inj t' F)(hF:∀x,x<=t'.w->2<=F x)(m0:(0,Mem.box 81 (scE s++[.own 1,.loc 2 0]))∈A)(m1:(1,Mem.arr 54 rcE 4 (bxN s s.ns.length))∈A)(m2:∀y∈mdQ t' F,y∈A):zhW (0::1::lab t' F) (t'.w+3) A (ixM s t' λx=>2+x):=by
 have at2:∀x,x<=t'.w->rn (0::1::lab t' F) 0 (2+x)=F x:=λx hx=>uJ (by rw[Q0];exact zcp hx)
 refine⟨λx y hx hy e=>?_,zDH,λy hy=>?_⟩
 ·rcases x with _|_|x <;> rcases y with _|_|y
  ·rfl
  ·cases e
  ·rw[show y+1+1=2+y by omega,at2 y oM]at e;have e:0=F y:=e;have:=hF y oM;omega
  ·cases e
  ·rfl
  ·rw[show y+1+1=2+y by omega,at2 y oM]at e;have e:1=F y:=e;have:=hF y oM;omega
  ·rw[show x+1+1=2+x by omega,at2 x oM]at e;have e:F x=0:=e;have:=hF x oM;omega
  ·rw[show x+1+1=2+x by omega,at2 x oM]at e;have e:F x=1:=e;have:=hF x oM;omega
  rw[show x+1+1=2+x by omega,show y+1+1=2+y by omega,at2 x oM,at2 y oM]at e;have:=inj x y oM oM e;omega
 rcases XD.1 hy with rfl|hy
 ·refine⟨by show 0<_;omega,rfl,?_⟩;show(0,Mem.box 81 (scE s++[.own 1,.loc (rn (0::1::lab t' F) 0 (2+0)) 0]))∈_;rw[at2 0 (Xg _),h0];exact m0
 rcases XD.1 hy with rfl|hy
 ·exact⟨by show 1<_;omega,tV,m1⟩
 refine⟨?_,(zdz t' (λx hx=>by show 2+x<_;omega) y hy).1,m2 _ ?_⟩
 ·obtain⟨x,hx,e⟩:=zaR hy;have e:y.1=2+x:=e;omega
 have:=zbo (ks:=0::1::lab t' F) (κ:=0) hy;rw[zn5,y4 t' at2]at this;exact this
def zCS{s:Sc}{t t':Qt}{F:Nat->Nat}{m0:Mem}(hw:t.w<500)(h0:F 0=2)(inj:Inj t' F)(hF:∀x,x<=t'.w->2<=F x):
  zhW (0::1::lab t' F) (t'.w+3) (mdQ t' F++jv ((600,m0)::ixM s t λx=>2+x) (lab t λx=>2+x)) (ixM s t' λx=>2+x):=by
 have out:∀k,k<2->k∉lab t λx=>2+x:=λk hk h=>by
  obtain⟨x,_,e⟩:=XL.1 h;have e:2+x=k:=e;omega
 have hp:((600,m0)::ixM s t λx=>2+x).Pairwise λa b=>a.1≠b.1:=XY.2 ⟨λy hy=>by
  show 600≠y.1
  rcases XD.1 hy with rfl|hy
  ·show(600:Nat)≠0;omega
  rcases XD.1 hy with rfl|hy
  ·show(600:Nat)≠1;omega
  obtain⟨x,hx,e⟩:=zaR hy;have e:y.1=2+x:=e
  omega,zDH⟩
 exact zut h0 inj hF (KF _ (zn8 hp (XO _ (XW ..)) (out 0 oM))) (KF _ (zn8 hp (XO _ (XO _ (XW ..))) (out 1 oM))) λy hy=>KM _ hy
def zqP(s:Sc)(hl:ltS s)(hv:zV s)(h8:s.ns.length<=8):CX 25 [wr s] (.tup [.dptr (ixT s),i64 0]):=by
 have ht:=zgi hl;have h64:=yY hv;have hn:∀n∈s.ns,ltN n:=λn hm=>hl.2 n (by rw[Xk oM];exact hm)
 refine zsz tok mix func25 rfl rfl rfl<|wg (zio s ht.tame)<|⟨λk=>absurd hv k,λ_=>?_⟩;refine wd<|wg (zzJ s oM hn) λhl0=>?_;refine⟨Rc,rcE,k8,rfl,Ob.mk ⟨dC,oM,Qi _,(by show(s.ns.length:Int)*(32:Int)<=_;omega),oM⟩ ?_⟩;refine wh λhl1=>?_
 refine⟨Nat,λi=>⟨[(28,i64 i),(27,i64 s.ns.length),(26,.sl ndE s.ns),(4,.loc 3 0)],[(3,.box 81 (scE s++([.own 1,.loc 2 0]:LQ))),(2,.box 98 (quE (arN s i) nS)),(1,.arr 54 rcE 4 (bxN s i))],4,92,0⟩,
  λi=>i<=s.ns.length,λi=>s.ns.length-i,0,Xg _,zhw [(1,some 1),(2,some 2),(3,some 3)] ⟨rfl,rfl,aR zAb.symm,tV⟩,?_⟩
 rintro i hi
 have hi:i<=s.ns.length:=hi;refine⟨λg:(i:Int)<s.ns.length=>?_,λg=>?_⟩
 ·have gi:i<s.ns.length:=oM;refine wb λn hx=>?_;have en:=zn3 (show s.ns[i]?=some n from hx);have r1:0<=(i:Int)/\(i:Int)<(bxN s i).length:=by rw[zcl];omega
  refine⟨λc=>?_,λc=>?_⟩
  ·have c:ndK s i≠1:=by rw[en];exact c
   have eb:=zCI gi c;have r2:0<=(i:Int)/\(i:Int)<(bxN s (i+1)).length:=by rw[zcl];omega
   have ebx:(bxN s (i+1))[i]?=some (zbi s i):=by
    rw[zkz gi,Xe oM];unfold bxK;rw[Xe c]
   refine wd<|wg (zFc s i ht)<|Ob.mk r1<|Ob.mk r1 λz hz=>?_;refine⟨zbi s i,rfl,?_⟩;rw[show(bxN s i).set (i:Int).toNat (zbi s i)=bxN s (i+1) from eb];refine wh<|wd<|Ob.mk r2<|Ob.mk r2 λz hz=>?_;rw[show z=zbi s i from Xl ((show(bxN s (i+1))[i]?=some z from hz).symm.trans ebx)];refine wg (zt9 (arN s i) (zbi s i))<|wh<|wa ?_;have ea:arN s (i+1)=zk3 (arN s i) (zbi s i):=Xe c
   exact⟨i+1,by show i+1<=_;omega,zhw [(1,some 1),(2,some 2),(3,some 3)] ⟨rfl,Xj (λq=>some (Mem.box 98 (quE q nS))) ea.symm,rfl,tV⟩,oN⟩
  have c:¬ndK s i≠1:=λk=>c (by rw[←en];exact k)
  refine wa ?_;have ea:arN s (i+1)=arN s i:=Xb c;exact⟨i+1,by show i+1<=_;omega,zhw [(1,some 1),(2,some 2),(3,some 3)] ⟨rfl,Xj (λq=>some (Mem.box 98 (quE q nS))) ea.symm,aR (zz0 c).symm,tV⟩,oN⟩
 obtain rfl:i=s.ns.length:=by have g:¬(i:Int)<s.ns.length:=g;omega
 have hbl:=zcl s s.ns.length;intro hl2
 refine⟨Nat,λi=>⟨[(75,i64 i),(74,i64 ((bxN s s.ns.length).length:Int)),(73,.own 1),(4,.loc 0 0)],ixM s (kR s i) λx=>2+x,600,92,0⟩,
  λi=>i<=(bxN s s.ns.length).length,λi=>(bxN s s.ns.length).length-i,0,Xg _,zA [(0,some 3),(1,some 1),(2,some 2),(3,none)],?_⟩
 rintro i hi
 have hi:i<=(bxN s s.ns.length).length:=hi;have tw:=zsA s i;have tn:=zkI s i;refine⟨λg:(i:Int)<(bxN s s.ns.length).length=>?_,λg=>?_⟩
 ·obtain⟨b,hb⟩:∃b,(bxN s s.ns.length)[i]?=some b:=⟨_,Xa oM⟩;have eg:(bxN s s.ns.length).getD i k8=b:=by rw[Xn,hb];rfl
  refine wb<|wb λz hz=>?_;rw[show z=b from Xl ((show(bxN s s.ns.length)[i]?=some z from hz).symm.trans hb)];refine wg (zcf b)<|⟨λc=>?_,λc=>?_⟩
  ·obtain⟨F,N,F0,Finj,Fb,Fc,hc⟩:=zFu i b 6 (kR s i) oM oM oM
   have et:kR s (i+1)=(kR s i).ins i b 6:=by
    show(if _ then _ else _)=_;rw[eg];exact Xb c
   rw[←et]at Finj Fb Fc hc
   have ha:∀κ,LEs [.loc 2 0,i64 i,wq b,i64 0] (uU.rens (lab (kR s i) λx=>2+x) κ [.loc 0 0,i64 i,wq b,i64 (6-((6:Nat):Int))]):=λκ=>by
    show LEs _ [.loc (rn _ κ 0) 0,i64 i,wq b,i64 0];rw[uJ (zcp (Xg _))];exact .refl
   refine wd<|zmG (t:=kR s i) (g:=λx=>2+x) (λx y _ _ e=>by have e:2+x=2+y:=e;omega) (zCR (s:=s) (t:=kR s i) oM) Fb hc (ha _) rfl ?_;have lo:∀x,F x<=(kR s i).w->rn (lab (kR s i) λx=>2+x) 601 (F x)=2+F x:=λx h=>uJ (zcp h)
   have hi2:∀x,¬F x<=(kR s i).w->rn (lab (kR s i) λx=>2+x) 601 (F x)=601+(F x-((kR s i).w+1)):=λx h=>by rw[zbS (by rw[vw];omega),vw]
   refine zFv (λy hy=>?_) (λz h1 h2=>?_) ?_
   ·obtain⟨x,hx,e⟩:=zaR hy;have e:y.1=rn (lab (kR s i) λx=>2+x) 601 (F x):=e;have:=Fb x hx
    by_cases c:F x<=(kR s i).w
    ·refine .inl (XL.2 ⟨F x,XT.2 oM,?_⟩);rw[e,lo x c]
    rw[hi2 x c]at e;exact .inr oM
   ·obtain⟨x,hx,e⟩:=Fc ((kR s i).w+1+(z-601)) oM oM;rw[zgq];refine XL.2 ⟨x,XT.2 oM,?_⟩;rw[hi2 x oM,e];omega
   refine wh<|zkJ<|wa<|zkJ ?_;have tw':=zsA s (i+1);have z0:F 0<=(kR s i).w:=oM;refine⟨i+1,by show i+1<=_;omega,zAm rfl oM (zCS oM (by rw[lo 0 z0,F0]) (λx y hx hy e=>?_) λx hx=>?_) λt' v h=>?_,oN⟩
   ·have e:rn (lab (kR s i) λx=>2+x) 601 (F x)=rn (lab (kR s i) λx=>2+x) 601 (F y):=e;refine Finj x y hx hy ?_
    by_cases c:F x<=(kR s i).w <;> by_cases d:F y<=(kR s i).w
    ·rw[lo x c,lo y d]at e;omega
    ·rw[lo x c,hi2 y d]at e;omega
    ·rw[hi2 x c,lo y d]at e;omega
    rw[hi2 x c,hi2 y d]at e;omega
   ·show 2<=rn (lab (kR s i) λx=>2+x) 601 (F x)
    by_cases c:F x<=(kR s i).w
    ·rw[lo x c];omega
    rw[hi2 x c];omega
   have h:z6 [(75,i64 ((i+1:Nat):Int)),(74,i64 ((bxN s s.ns.length).length:Int)),(73,.own 1),(4,.loc 0 0)] t'=some v:=h;rw[zK,zK,zK,zK]at h
   split at h
   ·rename_i q;rw[←q,←Xl h];exact⟨rfl,rfl⟩
   split at h
   ·rename_i q;rw[←q,←Xl h];exact⟨rfl,rfl⟩
   split at h
   ·rename_i q;rw[←q,←Xl h];exact⟨rfl,rfl⟩
   split at h
   ·rename_i q;rw[←q,←Xl h];exact⟨rfl,rfl⟩
   cases h
  refine wa ?_
  have et:kR s (i+1)=kR s i:=by
   show(if _ then _ else _)=_;rw[eg];exact Xe (Xc.1 c)
  refine⟨i+1,by show i+1<=_;omega,?_,oN⟩;show Sub _ ⟨[(75,i64 ((i+1:Nat):Int)),(74,i64 ((bxN s s.ns.length).length:Int)),(73,.own 1),(4,.loc 0 0)],ixM s (kR s (i+1)) λx=>2+x,600,92,0⟩;rw[et]
  refine zAm rfl oM (zut (F:=λx=>2+x) rfl (λx y _ _ e=>by have e:2+x=2+y:=e;omega) (λx _=>by show 2<=2+x;omega) (XO _ (XW ..)) (XO _ (XO _ (XW ..)))
   λy hy=>XO _ (XO _ (XO _ hy))) λt' v h=>?_
  have h:z6 [(75,i64 ((i+1:Nat):Int)),(74,i64 ((bxN s s.ns.length).length:Int)),(73,.own 1),(4,.loc 0 0)] t'=some v:=h;rw[zK,zK,zK,zK]at h
  split at h
  ·rename_i q;rw[←q,←Xl h];exact⟨rfl,rfl⟩
  split at h
  ·rename_i q;rw[←q,←Xl h];exact⟨rfl,rfl⟩
  split at h
  ·rename_i q;rw[←q,←Xl h];exact⟨rfl,rfl⟩
  split at h
  ·rename_i q;rw[←q,←Xl h];exact⟨rfl,rfl⟩
  cases h
 obtain rfl:i=s.ns.length:=by have g:¬(i:Int)<(bxN s s.ns.length).length:=g;omega
 intro Keep ρ w v hm hg;obtain⟨us,rfl,hus⟩:=hg.tup_inv;refine .tup _ us hus.1 λj s' v hs hv=>?_
 rcases j with _|_|j
 ·cases hs
  obtain⟨b',h1,rfl⟩:=(hus.2 0 _ v rfl hv).loc_inv;refine .d _ _ (D.less (S:=Keep) (λb h=>h.resolve_right zF) (zAl hm (XW ..) h1 rfl λj s0 s' u hs0 hs' hg=>?_))
  rcases j with _|_|_|_|_|_|_|_|_|j
  all_goals first
   |(cases hs0;cases hs';rw[hg.val_inv];exact .val _)
   |(cases hs0;cases hs';exact hg.sl_inv.less λb h=>.inl h)
   |skip
  ·cases hs0;cases hs'
   have h1:=XO (0,Mem.box 81 (scE s++[.own 1,.loc 2 0])) (XW (a:=(1,Mem.arr 54 rcE 4 (bxN s s.ns.length))) (l:=mdQ (kR s s.ns.length) λx=>2+x));exact zej hm h1 (λb hb=>.inl hb) (λv b hv hb hk'=>(hm.old b ⟨1,_,v,h1,hv,hb⟩).2 hk') hg.own_inv.1
  ·cases hs0;cases hs'
   obtain⟨b2,h2,rfl⟩:=hg.loc_inv;exact zFt hm _ (λx=>2+x) (λy hy=>XO _ (XO _ hy)) b2 h2
  cases hs0
 ·cases hs
  rw[(hus.2 1 _ v rfl hv).val_inv];exact .d _ _ (.val _)
 cases hs
def cl_Io(q:LU)(hq:q.length<=1000):CG0 112 [.sl zN q] [] (.own 0) [(0,.arr 3 zN 1 q)]:=by
 refine qu tok mix func112 rfl rfl rfl ?_
 by_cases h0:q=[]
 rotate_left;refine zcz.some (λh=>h0 (Xo h)) ?_;rotate_left;refine zcz.any (Br.mk ⟨none,.nil rfl,h0⟩ ?_)
 all_goals
  refine⟨Int,zN,[],rfl,wb2 ?_⟩;exact⟨q,rfl,Ob.mk ⟨(by show _*(8:Int)<=_;simp only[Xt];omega),(by simp only[Xt];omega),dC,λ_ _=>rfl⟩ ⟨some 1,.own _ rfl,rfl,λ_ _=>rfl⟩⟩
def uT(z:Rc):∀t:Qt,(t.find z).length<=t.all.length
 |.leaf a es=>by unfold Qt.find Qt.all;split <;> simp
 |.node a es p q r s=>by
  have h1:=uT z p;have h2:=uT z q;have h3:=uT z r;have h4:=uT z s;unfold Qt.find Qt.all
  split
  ·exact Xg _
  simp only[Xp];omega
def kidD(p q r s:Qt)(j:Nat):LQ:=[.dptr (match j with
 |0=>qtE p
 |1=>qtE q
 |2=>qtE r
 |_=>qtE s)]
def accQ(z:Rc)(es:LU)(p q r s:Qt):Nat->LU
 |0=>es
 |1=>es++p.find z
 |2=>es++p.find z++q.find z
 |3=>es++p.find z++q.find z++r.find z
 |_=>es++p.find z++q.find z++r.find z++s.find z
def zCT(z:Rc):∀t:Qt,t.all.length<=1000->CX 79 [.dptr (qtE t),wq z] (.sl zN (t.find z)):=by
 intro t
 induction t with
 |leaf a es=>
  intro hl;have hl:es.length<=1000:=hl;refine zd func79<|wc<|wg (znU a z)<|wg (zcf (a.meet z))<|⟨λh=>by rw[show(Qt.leaf a es).find z=[] from Xe h];exact zw,λh=>?_⟩;refine wg (cl_I es hl)<|⟨Unit,λ_=>⟨[(25,i64 0),(24,i64 0),(5,.sl zN es)],[],1,36,0⟩,λ_=>True,λ_=>0,(),tV,?_,?_⟩
  ·exact zA []
  rintro _ _
  refine⟨λk=>absurd k dC,λ_=>?_⟩;exact kM (Xb h).symm
 |node a es p q r s hp hq hr hs=>
  intro hl;have hl:(es++p.all++q.all++r.all++s.all).length<=1000:=hl;simp only[Xp]at hl;have l1:=uT z p;have l2:=uT z q;have l3:=uT z r;have l4:=uT z s;refine zd func79<|wc<|wg (znU a z)<|wg (zcf (a.meet z))<|⟨λh=>by rw[show(Qt.node a es p q r s).find z=[] from Xe h];exact zw,λh=>?_⟩;refine zb.fresh _ _ (cl_Io es oM) rfl (λ_ _=>rfl) (.inl rfl) λhl0=>?_
  refine⟨Nat,λj=>⟨[(25,i64 j),(24,i64 4),(23,.sl (kidD p q r s) (List.range 4)),(5,.own 1),(3,.loc 0 0)],[(0,.box 54 (rcE z)),(1,.arr 3 zN 1 (accQ z es p q r s j))],2,36,0⟩,λj=>j<=4,λj=>4-j,0,Xg _,zi [0,1],?_⟩
  rintro j hj
  have hj:j<=4:=hj;refine⟨λg:(j:Int)<4=>?_,λg=>?_⟩
  ·have hp:=hp oM;have hq:=hq oM;have hr:=hr oM;have hs:=hs oM
   have hacc:(accQ z es p q r s j).length<=1000:=by
    obtain rfl|rfl|rfl|rfl:j=0∨j=1∨j=2∨j=3:=oM
    all_goals simp only[accQ,Xp];omega
   obtain⟨k,hk⟩:∃k,j+1=k:=⟨_,rfl⟩;obtain rfl|rfl|rfl|rfl:j=0∨j=1∨j=2∨j=3:=oM
   all_goals
    refine wb1 λx hx=>?_
    cases hx
    first|refine wg hp ?_|refine wg hq ?_|refine wg hr ?_|refine wg hs ?_
    refine⟨_,rfl,Ob.mk ⟨by show(_:Int)*(8:Int)<=_;omega,oM,dC,λ_ _=>rfl⟩ ?_⟩;refine Ar.fit dC<|⟨k,oM,?_,oN⟩;subst hk;exact zi [0,2]
  obtain rfl:j=4:=by have g:¬(j:Int)<4:=g;omega
  exact kM (Xb h).symm
variable{a:Rc}{b:Rc}
def zws(ha:¬a.mt)(hb:¬b.mt)(h:b.x0<=a.x0/\b.y0<=a.y0/\a.x1<=b.x1/\a.y1<=b.y1):a.within b:=by
 unfold Rc.within Rc.meet;rw[Xb (λk=>k.elim ha hb),Rc.canon_neg ha,show max a.x0 b.x0=a.x0 by omega,show max a.y0 b.y0=a.y0 by omega,show min a.x1 b.x1=a.x1 by omega,show min a.y1 b.y1=a.y1 by omega];exact Rc.canon_neg ha
def holds(b a:Rc):Prop:=¬b.mt/\b.x0<=a.x0/\b.y0<=a.y0/\a.x1<=b.x1/\a.y1<=b.y1
def zd9(hb:¬b.mt):holds (zk3 a b) b:=by
 unfold zk3 holds
 by_cases ha:a.mt
 ·rw[Xe ha,Rc.canon_neg hb];exact⟨hb,oM⟩
 rw[Xb ha,Xb hb];have h1:=Rc.notmt ha;have h2:=Rc.notmt hb;refine⟨?_,oN⟩;unfold Rc.mt Rc.ok v9 at*;dsimp only;omega
def zgt{c:Rc}(h:holds a c):holds (zk3 a b) c:=by
 obtain⟨ha,h⟩:=h;unfold zk3 holds;rw[Xb ha]
 by_cases hb:b.mt
 ·rw[Xe hb];exact⟨ha,h⟩
 rw[Xb hb];have h1:=Rc.notmt ha;have h2:=Rc.notmt hb;refine⟨?_,oN⟩;unfold Rc.mt Rc.ok v9 at*;dsimp only;omega
def zqQ{s:Sc}{k:Nat}(hk:¬(bxK s k).mt):∀n,k<n->holds (arN s n) (bxK s k)
 |n+1,h=>by
  have hn:ndK s k≠1:=λe=>hk (by unfold bxK;rw[Xb λh=>h e];exact ji)
  have eb:bxK s k=zbi s k:=Xe hn
  rcases Ja.1 h with c|c
  ·have ih:=zqQ hk n c;unfold arN
   split
   ·exact zgt ih
   exact ih
  subst c;unfold arN;rw[Xe hn,eb];rw[eb]at hk;exact zd9 hk
def zdB(z:Rc):∀(t:Qt) (i:Int),i∈t.find z->i∈t.all
 |.leaf a es,i,h=>by
  unfold Qt.find at h
  split at h
  ·cases h
  exact h
 |.node a es p q r s,i,h=>by
  unfold Qt.find at h
  split at h
  ·cases h
  simp only[Xr]at h;unfold Qt.all;simp only[Xr]
  rcases h with(((h|h)|h)|h)|h
  ·exact .inl (.inl (.inl (.inl h)))
  ·exact .inl (.inl (.inl (.inr (zdB z p i h))))
  ·exact .inl (.inl (.inr (zdB z q i h)))
  ·exact .inl (.inr (zdB z r i h))
  exact .inr (zdB z s i h)
def zhk(s:Sc):∀k,(kR s k).area=arN s s.ns.length
 |0=>rfl
 |k+1=>by
  unfold kR
  split
  ·exact zhk s k
  rw[zAd];exact zhk s k
def zkK(s:Sc):∀k,(kR s k).all.Perm (enN (bxA s) k)
 |0=>.refl _
 |k+1=>by
  have ih:=zkK s k;unfold kR
  split
  ·rename_i h;rw[zz1 (show((bxA s).getD k k8).mt from h)];exact ih
  rename_i h;rw[zkA (show¬((bxA s).getD k k8).mt from h)];exact(zcn _ _ _ _).trans ((ih.cons _).trans (Jv (l₁:=[(k:Int)])))
def zmK(s:Sc):∀k,k<=s.ns.length->(kR s k).good λi=>(bxA s).getD i.toNat k8
 |0,_=>λi hi=>by cases hi
 |k+1,hk=>by
  have ih:=zmK s k oM;unfold kR
  split
  ·exact ih
  rename_i h;have eb:(bxN s s.ns.length).getD k k8=bxK s k:=by rw[Xn,zkz oM,Xe oM];rfl
  rw[eb]at h;have hh:=zqQ h s.ns.length oM;refine zdy (B:=λi=>(bxA s).getD i.toNat k8) (i:=(k:Int)) 6 ih ?_;show((bxN s s.ns.length).getD k k8).within _;rw[zhk,eb];exact zws h hh.1 hh.2
def zsB(s:Sc)(r:Rc):LU:=zaU s r (enA s)
def zwt(s:Sc)(r:Rc):(zaU s r ((kR s s.ns.length).find r)).Perm (zsB s r):=by
 have h:=zwo (z:=r) (zmK s s.ns.length (Xi _));have e:zaU s r ((kR s s.ns.length).find r)=(kR s s.ns.length).all.filter λi=>decide (zgm s r i):=h
 rw[e];exact(zkK s s.ns.length).filter _
def zCU(s:Sc)(r:Rc):(zsB s r).Pairwise (·<=·):=(en_up _ _).sublist List.filter_sublist
def srtI(s:LU)(i:Nat):Prop:=∀x y,x<y->y<i->y<s.length->s.getD x 0<=s.getD y 0
def zAn(s:LU)(i j:Nat):Prop:=(∀x y,x<y->y<=i->y<s.length->x≠j->y≠j->s.getD x 0<=s.getD y 0)/\∀y,j<y->y<=i->y<s.length->s.getD j 0<=s.getD y 0
def zea{s:LU}{x:Nat}{v:Int}(h:s[x]?=some v):s.getD x 0=v:=by rw[Xn,h];rfl
variable{j:Nat}
def zir{s:LU}{u v:Int}(hj:j<s.length)(h1:1<=j)(k:Nat):((s.set j u).set (j-1) v).getD k 0=if k=j-1 then v else if k=j then u else s.getD k 0:=by
 simp only[Xn,Kw,XP]
 split
 ·rename_i a;rw[Xe oM,Xe a.symm];rfl
 rename_i a
 split
 ·rename_i b
  first|rw[Xe hj]|skip
  rw[Xb oM,Xe b.symm];rfl
 rw[Xb oM,Xb oM]
variable{i:Nat}{x:Int}
def zAo{s:LU}{y:Int}(hj:j<s.length)(h1:1<=j)(hji:j<=i)(hx:s[j-1]?=some x)(hy:s[j]?=some y)(hlt:y<x)(h:zAn s i j):zAn ((s.set j x).set (j-1) y) i (j-1):=by
 have ex:=zea hx;have ey:=zea hy;have hl:((s.set j x).set (j-1) y).length=s.length:=by rw[XP,XP]
 refine⟨λp q hpq hq hql n1 n2=>?_,λq hq hqi hql=>?_⟩
 ·rw[hl]at hql;rw[zir hj h1,zir hj h1,Xb n1,Xb n2]
  by_cases a:p=j
  ·rw[Xe a,Xb oM,←ex];exact h.1 (j-1) q oM hq hql oM oM
  rw[Xb a]
  by_cases b:q=j
  ·rw[Xe b,←ex];exact h.1 p (j-1) oM oM oM a oM
  rw[Xb b];exact h.1 p q hpq hq hql a b
 rw[hl]at hql;rw[zir hj h1,zir hj h1,Xe rfl,Xb oM]
 by_cases b:q=j
 ·rw[Xe b];omega
 rw[Xb b,←ey];exact h.2 q oM hqi hql
def zqR{s:LU}(hji:j<=i)(h:zAn s i j)(hd:j=0∨s.getD (j-1) 0<=s.getD j 0):srtI s (i+1):=λp q hpq hq hql=>by
 by_cases a:p=j
 ·rw[a];exact h.2 q oM oM hql
 by_cases b:q=j
 ·have hd:=hd.resolve_left oM;rw[b]
  by_cases c:p=j-1
  ·rw[c];exact hd
  exact Int.le_trans (h.1 p (j-1) oM oM oM a oM) hd
 exact h.1 p q hpq oM hql a b
def zwu{s:LU}(h:srtI s i):zAn s i i:=⟨λx y hxy hy hyl _ n=>h x y hxy oM hyl,λy h1 h2=>by omega⟩
def zFw{s:LU}(h:srtI s i)(hi:s.length<=i):s.Pairwise (·<=·):=by
 rw[Q5];intro x y hx hy hxy;have:=h x y hxy oM hy
 rwa [zea (Xa hx),zea (Xa hy)]at this
def zwv{s:LU}{y:Int}(hx:s[j-1]?=some x)(hy:s[j]?=some y):((s.set j x).set (j-1) y).Perm s:=by
 obtain⟨h1,rfl⟩:=Xd.1 hx;obtain⟨h2,rfl⟩:=Xd.1 hy;exact List.set_set_perm h2 h1
def zFx(l l':LU)(hp:l.Perm l')(hs:l'.Pairwise (·<=·))(hl:l.length<=12):CG0 158 [.own 0,i64 0,i64 l.length] [(0,.arr 3 zN 1 l)] (.tup []) [(0,.arr 3 zN 1 l')]:=by
 refine yA tok mix func158 rfl rfl rfl (ju _) rfl<|wa<|⟨Nat×LU,λ⟨i,s⟩=>⟨[(6,i64 i),(2,i64 l.length),(1,i64 0),(0,.own 0)],[(0,.arr 3 zN 1 s)],1,49,1⟩,λz=>1<=z.1/\z.1<=l.length+1/\z.2.Perm l/\srtI z.2 z.1,λz=>l.length+1-z.1,(1,l),⟨Xi _,oN,.refl _,λx y _ _=>by omega⟩,?_,?_⟩
 ·exact zi [0]
 rintro⟨i,s⟩ ⟨i1,i2,i3,i4⟩
 dsimp only at i1 i2 i3 i4;have sl:=i3.length_eq;refine⟨λg=>?_,λg=>?_⟩;rotate_left
 ·have g:¬(i:Int)<l.length:=g;have e:s=l':=List.Perm.eq_of_pairwise (λa b _ _ h1 h2=>JJ h1 h2) (zFw i4 oM) hs (i3.trans hp);rw[e];exact⟨rfl,.refl⟩
 have g:(i:Int)<l.length:=g;refine⟨Nat×LU,λ⟨j,s⟩=>⟨[(7,i64 j),(6,i64 i),(2,i64 l.length),(1,i64 0),(0,.own 0)],[(0,.arr 3 zN 1 s)],1,49,1⟩,λz=>z.1<=i/\z.2.Perm l/\zAn z.2 i z.1,λz=>z.1,(i,s),⟨Xi _,i3,zwu i4⟩,zi [0],?_⟩
 rintro⟨j,s⟩ ⟨j1,j2,j3⟩
 dsimp only at j1 j2 j3;clear i3 i4 sl;have sl:=j2.length_eq;refine wc<|Br.mk (λg2=>?_) (λg2=>?_)
 ·have g2:(0:Int)<j:=g2;refine wb<|wb λy(hy:s[j]?=some y)=>?_;refine wa<|wb<|wb λx hx=>?_;have hx:s[j-1]?=some x:=by rw[←hx];congr 1;omega
  refine wg (zCN y x)<|⟨λk=>?_,λk=>?_⟩
  ·have k:y<x:=k;refine wd ?_;(iterate 2 refine wa ?_);refine wb<|wb λx' hx'=>?_
   obtain rfl:x'=x:=by
    have:s[j-1]?=some x':=by rw[←hx'];congr 1;omega
    exact Xl (this.symm.trans hx)
   refine wb<|wb λy' hy'=>?_;obtain rfl:y'=y:=Xl ((show s[j]?=some y' from hy').symm.trans hy);refine wb<|wb λu _=>?_;refine⟨x',rfl,?_⟩;refine Ob.mk (by rw[XP];omega)<|Ob.mk (by rw[XP];omega) λu _=>?_;refine⟨y',rfl,?_⟩;refine wh<|wa ?_;have e1:((j:Int)).toNat=j:=rfl;have e2:((j:Int)-1).toNat=j-1:=oM
   refine⟨(j-1,(s.set j x').set (j-1) y'),⟨oN,(zwv hx hy).trans j2,zAo oM oM j1 hx hy k j3⟩,ku [0] ⟨iR oM,rfl,rfl,rfl,rfl,tV⟩ ⟨aR (by rw[e2];rfl),tV⟩,oN⟩
  have k:¬y<x:=k;exact wa<|⟨(i+1,s),⟨oN,oN,j2,zqR j1 j3 (.inr (by rw[zea hx,zea hy];omega))⟩,zi [0],oN⟩
 have g2:¬(0:Int)<j:=g2;exact wa<|⟨(i+1,s),⟨oN,oN,j2,zqR j1 j3 (.inl oM)⟩,zi [0],oN⟩
def zCV(l l':LU)(hp:l.Perm l')(hs:l'.Pairwise (·<=·))(hl:l.length<=12):CG0 81 [.own 0] [(0,.arr 3 zN 1 l)] (.tup []) [(0,.arr 3 zN 1 l')]:=by
 have pdq:∀m:Int,CG0 117 [.own 0,i64 0,i64 l.length,i64 m] [(0,.arr 3 zN 1 l)] (.tup []) [(0,.arr 3 zN 1 l')]:=λm=>by
  refine yA tok mix func117 rfl rfl rfl (ju _) rfl<|⟨Unit,λ_=>⟨[(2,i64 l.length),(1,i64 0),(0,.own 0)],[(0,.arr 3 zN 1 l)],1,134,1⟩,λ_=>True,λ_=>0,(),tV,?_,?_⟩
  ·exact zi [0]
  rintro _ _
  refine wa<|Br.mk (λ_=>?_) (λk=>by have k:¬(l.length:Int)-0<=12:=k;omega);exact zb.hand 0 _ _ _ rfl (zFx l l' hp hs hl) (ju _) (ju _) rfl rfl<|⟨rfl,.refl⟩
 exact yA tok mix func81 rfl rfl rfl (ju _) rfl λhl0=>wa<|wg (zFl l.length hl)<|zb.hand 0 _ _ _ rfl (pdq _) (ju _) (ju _) rfl rfl<|⟨rfl,.refl⟩
end
end Go.Gs
