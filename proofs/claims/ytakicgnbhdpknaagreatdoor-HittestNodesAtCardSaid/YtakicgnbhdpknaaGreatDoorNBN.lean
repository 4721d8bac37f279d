/- What a node contains, both texts. -/
import Derived.Test.YtakicgnbhdpknaaGreatDoorNBM
import Derived.Test.YtakicgnbhdpknaaGreatDoorNBG
set_option maxRecDepth 100000
set_option maxHeartbeats 8000000
set_option linter.all false
namespace Go.Gs
open Proofs.Tryz
open Go.Proofs
def zoX(s:Sc)(p:Pt)(k:Int):Prop:=0<(z0 s k).clip.length->uo (znd s k) (z0 s k).cr p
instance (s:Sc) (p:Pt) (k:Int):Decidable (zoX s p k):=inferInstanceAs (Decidable (_->_))
def uO(s:Sc)(i:Int)(p:Pt):Prop:=inS s i/\zr p/\∀k∈qq s i,zoX s p k
instance (s:Sc) (i:Int) (p:Pt):Decidable (uO s i p):=wi
def znk(s:Sc)(k:Int):kL (znd s k):=by
 unfold znd;split
 ·exact za0
 exact zh7 _ _
variable{i:Int}
def zlt{s:Sc}{k:Int}(h:k∈qq s i):inS s i/\inS s k:=by
 unfold qq at h
 split at h
 ·rename_i hi;obtain⟨a,ha,rfl⟩:=XO.1 h;obtain⟨i,rfl⟩:∃q:Nat,i=(q:Int):=⟨i.toNat,by have:=hi.2.1;omega⟩;have:=zrp (i+1) i oM a (List.mem_reverse.1 ha);exact⟨hi,hi.1,oM,by have:=hi.2.2;omega⟩
 cases h
def zEA{s:Sc}(h:inS s i):(qq s i).length≠0:=by
 obtain⟨i,rfl⟩:∃q:Nat,i=(q:Int):=⟨i.toNat,by have:=h.2.1;omega⟩;rw[show qq s i=_ from Xe h,jr];simp
def zhb{s:Sc}{k:Int}(h:inS s k){n:Nd}(hn:s.ns[k.toNat]?=some n):n=z0 s k:=(zcX h hn).symm
variable{l:LV}{x:Int}
def zcl{j:Nat}{P:Int->Prop}(hx:l[j]?=some x)(h:∀k∈l.take j,P k)(hp:P x):∀k∈l.take (j+1),P k:=λk hk=>by
 rw[Xl,hx]at hk
 rcases Xs.1 hk with q|q
 ·exact h k q
 rw[show k=x by simpa using q];exact hp
def zB5(s:Sc)(i:Int)(p:Pt)(ht:jf s):CX 43 [wq s,i64 i,wk p] (pr (uO s i p)):=by
 refine zc func43<|wg (zCL s i ht.tame) λhl0=>?_;refine⟨λh=>zd λk=>zEA k.1 (by have h:((qq s i).length:Int)=0:=h;omega),λh=>?_⟩;have h:¬((qq s i).length:Int)=0:=h;refine wg (kY p)<|⟨λh=>zd λk=>h k.2.1,λh1=>?_⟩;have h1:zr p:=Xa.1 h1;intro hl
 refine⟨Nat,λj=>⟨[(25,i64 j),(24,i64 ((qq s i).length:Int)),(23,.sl zN (qq s i)),(5,.loc 1 0),(3,.loc 0 0)],[(1,.box 28 (ptE p)),(0,.box 26 (scE s))],2,49,0⟩,
  λj=>j<=(qq s i).length/\∀k∈(qq s i).take j,zoX s p k,λj=>(qq s i).length-j,0,⟨Xh _,λk hk=>by cases hk⟩,zf [0,1],?_⟩
 rintro j ⟨j1,j2⟩
 refine⟨λg:(j:Int)<(qq s i).length=>?_,λg:¬(j:Int)<(qq s i).length=>?_⟩
 ·refine wb λk(hk:(qq s i)[j]?=some k)=>?_;have hm:=Xf hk;obtain⟨_,hi⟩:=zlt hm;refine wg (zBV s k ht)<|wc<|Br.mk (λc=>?_) (λc=>?_)
  ·refine Ob.mk hi.2 λn hn=>?_;rw[zhb hi hn];refine wg (zgX _ _ p (znk s k))<|⟨λq=>zd λz=>q (z.2.2 k hm c),λq=>?_⟩;exact wa<|⟨j+1,⟨oM,zcl hk j2 λ_=>Xa.1 q⟩,zf [0,1],oN⟩
  exact wa<|⟨j+1,⟨oM,zcl hk j2 λq=>absurd q c⟩,zf [0,1],oN⟩
 rw[Xi oM]at j2;refine zH ⟨?_,h1,j2⟩;obtain⟨k,hk⟩:∃k,k∈qq s i:=Q0 _ λq=>h (by rw[q];rfl)
 exact(zlt hk).1
def zB6(s:Sc)(i:Int):CX 121 [wq s,i64 i] (pr (0<=i/\i<s.ns.length)):=by
 refine zc func121<|Br.mk (λh=>?_) (λh=>zd λk=>h k.1);intro hl;exact zE ⟨λk=>⟨h,k⟩,λk=>k.2⟩
def zB7(s:Sc)(i:Int)(p:Pt)(ht:jf s):CX 86 [wq s,i64 i,wk p] (pr (uO s i p)):=by
 refine zc func86<|wg (zea s ht.tame)<|⟨λh=>zd λk=>h k.1.1,λh0=>?_⟩;refine wg (zB6 s i)<|⟨λh=>zd λk=>h k.1.2,λh1=>?_⟩;refine wg (z9 p)<|⟨λh=>zd λk=>h k.2.1,λh2=>?_⟩;have hs:inS s i:=⟨Xa.1 h0,Xa.1 h1⟩;refine wg (zsU s i ht.tame) ?_
 refine⟨Nat,λj=>⟨[(8,i64 j),(7,.sl zN (qq s i)),(5,.loc 1 0),(3,.loc 0 0)],[(1,.box 28 (ptE p)),(0,.box 26 (scE s))],2,59,0⟩,
  λj=>j<=(qq s i).length/\∀k∈(qq s i).take j,zoX s p k,λj=>(qq s i).length-j,0,⟨Xh _,λk hk=>by cases hk⟩,zf [0,1],?_⟩
 rintro j ⟨j1,j2⟩
 intro hl;refine⟨λg:(j:Int)<(qq s i).length=>?_,λg:¬(j:Int)<(qq s i).length=>?_⟩
 ·refine wc<|wb λk(hk:(qq s i)[j]?=some k)=>?_;have get:∀z,(qq s i)[j]?=some z->z=k:=λz hz=>Xm (hz.symm.trans hk)
  have hm:=Xf hk;obtain⟨_,hi⟩:=zlt hm;refine wg (zBW s k ht)<|wc<|Br.mk (λc=>?_) (λc=>?_)
  ·refine wb λz hz=>?_;rw[get z hz];refine Ob.mk hi.2 λn hn=>?_;rw[zhb hi hn];refine wg (zgY _ _ p (znk s k))<|⟨λq=>zd λz=>q (z.2.2 k hm c),λq=>?_⟩;exact wa<|⟨j+1,⟨oM,zcl hk j2 λ_=>Xa.1 q⟩,zf [0,1],oN⟩
  exact wa<|⟨j+1,⟨oM,zcl hk j2 λq=>absurd q c⟩,zf [0,1],oN⟩
 rw[Xi oM]at j2;exact zH ⟨hs,Xa.1 h2,j2⟩
def onB(s:Sc)(p:Pt):Nat->Int->Bool
 |0,_=>false
 |f+1,i=>decide (uO s i p)&&(if (z0 s i).k=2 then decide (uo (zam s i) (z0 s i).rule p)||decide (uo (zaI s i) 1 p)
   else if (z0 s i).k=3 then decide (uo (zeU s i) 1 p) else(zaB s i.toNat).any (onB s p f))
def zuG(s:Sc)(p:Pt)(f:Nat)(i:Int):onB s p (f+1) i=(decide (uO s i p)&&(if (z0 s i).k=2 then decide (uo (zam s i) (z0 s i).rule p)||decide (uo (zaI s i) 1 p)
  else if (z0 s i).k=3 then decide (uo (zeU s i) 1 p) else(zaB s i.toNat).any (onB s p f))):=rfl
def zoY{s:Sc}{p:Pt}{f:Nat}{i:Int}(h:¬uO s i p):¬onB s p (f+1) i=true:=by
 rw[zuG,decide_eq_false h];simp
variable{p:Pt}{f:Nat}
def znl{s:Sc}(h:uO s i p)(k:(z0 s i).k=2):onB s p (f+1) i=true↔uo (zam s i) (z0 s i).rule p∨uo (zaI s i) 1 p:=by
 rw[zuG,decide_eq_true h,Xe k];simp
def zCM{s:Sc}(h:uO s i p)(k2:¬(z0 s i).k=2)(k:(z0 s i).k=3):onB s p (f+1) i=true↔uo (zeU s i) 1 p:=by
 rw[zuG,decide_eq_true h,Xc k2,Xe k];simp
def zCN{s:Sc}{p:Pt}{f:Nat}{i:Int}(h:uO s i p)(k2:¬(z0 s i).k=2)(k:¬(z0 s i).k=3):onB s p (f+1) i=true↔∃j∈zaB s i.toNat,onB s p f j=true:=by
 rw[zuG,decide_eq_true h,Xc k2,Xc k];simp
def zlu(s:Sc)(i:Int):kL (zam s i):=zcY s i _ (by simp[zaA])
def zlv(s:Sc)(i:Int):kL (zaI s i):=zcY s i _ (by simp[zaA])
def znm(s:Sc)(i:Int):kL (zeU s i):=zcY s i _ (by simp[zaA])
def g_on1(s:Sc)(p:Pt)(ht:jf s)(f:Nat)(i:Int)(ih:inS s i->∀k∈zaB s i.toNat,CX 24 [wq s,i64 k,wk p] (pr (onB s p f k=true))):
  CX 24 [wq s,i64 i,wk p] (pr (onB s p (f+1) i=true)):=by
 refine zc func24<|wg (zB5 s i p ht)<|⟨λh=>zd (zoY h),λh=>?_⟩;have h:uO s i p:=Xa.1 h;have hi:=h.1;refine Ob.mk hi.2 λn hn=>?_;rw[zhb hi hn];refine⟨λh2=>?_,λh2=>?_⟩
 ·refine wc<|wg (zuv s i ht)<|wg (zgX _ _ p (zlu s i))<|⟨λc=>zH ((znl h h2).2 (.inl c)),λc=>?_⟩;exact wg (zuz s i ht)<|wg (zgX _ _ p (zlv s i))<|zE ⟨λq=>(znl h h2).2 (.inr q),λq=>((znl h h2).1 q).resolve_left c⟩
 refine⟨λh3=>?_,λh3=>?_⟩
 ·exact wc<|wg (zzN s i ht)<|wg (zgX _ _ p (znm s i))<|zE (zCM h h2 h3).symm
 have e:=zCN (f:=f) h h2 h3;obtain⟨i,rfl⟩:∃q:Nat,i=(q:Int):=⟨i.toNat,by have:=hi.2.1;omega⟩;refine wg (zEy s i ht.tame hi) λhl=>?_
 refine⟨Nat,λj=>⟨[(49,i64 j),(48,i64 ((zaB s i).length:Int)),(47,.sl zN (zaB s i)),(5,.loc 1 0),(3,.loc 0 0)],[(1,.box 28 (ptE p)),(0,.box 26 (scE s))],2,58,0⟩,
  λj=>j<=(zaB s i).length/\∀k∈(zaB s i).take j,¬onB s p f k=true,λj=>(zaB s i).length-j,0,⟨Xh _,λk hk=>by cases hk⟩,zf [0,1],?_⟩
 rintro j ⟨j1,j2⟩
 refine⟨λg:(j:Int)<(zaB s i).length=>?_,λg:¬(j:Int)<(zaB s i).length=>?_⟩
 ·refine wb λk(hk:(zaB s i)[j]?=some k)=>?_;have hm:=Xf hk;refine wg (ih hi k hm)<|⟨λc=>zH (e.2 ⟨k,hm,c⟩),λc=>?_⟩;exact wa<|⟨j+1,⟨oM,zcl hk j2 c⟩,zf [0,1],oN⟩
 rw[Xi oM]at j2;refine zd λq=>?_
 obtain⟨k,hm,c⟩:=e.1 q;exact j2 k hm c
def k_on1(s:Sc)(p:Pt)(ht:jf s)(f:Nat)(i:Int)(ih:inS s i->∀k∈zaB s i.toNat,CX 49 [wq s,i64 k,wk p] (pr (onB s p f k=true))):
  CX 49 [wq s,i64 i,wk p] (pr (onB s p (f+1) i=true)):=by
 refine zc func49 ?_;have bad:¬uO s i p->LE (bl false) (pr (onB s p (f+1) i=true)):=λh=>zd (zoY h)
 refine wg (zea s ht.tame)<|⟨λh=>bad λk=>h k.1.1,λh0=>?_⟩;refine wg (z9 p)<|⟨λh=>bad λk=>h k.2.1,λh1=>?_⟩;refine⟨λh=>bad λk=>by have:=k.1.2.1;have h:i<0:=h;omega,λh2=>?_⟩;intro hl0;refine⟨λh=>bad λk=>by have:=k.1.2.2;have h:(s.ns.length:Int)<=i:=h;omega,λh3=>?_⟩;refine wg (zB7 s i p ht)<|Br.mk bad (λh=>?_);have h:uO s i p:=Xa.1 h;have hi:=h.1;refine Ob.mk hi.2 λn hn=>?_;rw[zhb hi hn]
 refine⟨λh2=>?_,λh2=>?_⟩
 ·refine wc<|wg (zB3 s i ht)<|wg (zgY _ _ p (zlu s i))<|⟨λc=>zH ((znl h h2).2 (.inl c)),λc=>?_⟩;exact wg (zB4 s i ht)<|wg (zgY _ _ p (zlv s i))<|zE ⟨λq=>(znl h h2).2 (.inr q),λq=>((znl h h2).1 q).resolve_left c⟩
 refine⟨λh3=>?_,λh3=>?_⟩
 ·exact wc<|wg (zEz s i ht)<|wg (zgY _ _ p (znm s i))<|zE (zCM h h2 h3).symm
 have e:=zCN (f:=f) h h2 h3;obtain⟨i,rfl⟩:∃q:Nat,i=(q:Int):=⟨i.toNat,by have:=hi.2.1;omega⟩;refine wg (zB2 s i ht.tame hi) ?_
 refine⟨Nat,λj=>⟨[(9,i64 j),(8,.sl zN (zaB s i)),(5,.loc 1 0),(3,.loc 0 0)],[(1,.box 28 (ptE p)),(0,.box 26 (scE s))],2,82,0⟩,
  λj=>j<=(zaB s i).length/\∀k∈(zaB s i).take j,¬onB s p f k=true,λj=>(zaB s i).length-j,0,⟨Xh _,λk hk=>by cases hk⟩,zf [0,1],?_⟩
 rintro j ⟨j1,j2⟩
 intro hl;refine⟨λg:(j:Int)<(zaB s i).length=>?_,λg:¬(j:Int)<(zaB s i).length=>?_⟩
 ·refine wc<|wb λk(hk:(zaB s i)[j]?=some k)=>?_;have hm:=Xf hk;refine wg (ih hi k hm)<|⟨λc=>zH (e.2 ⟨k,hm,c⟩),λc=>?_⟩;exact wa<|⟨j+1,⟨oM,zcl hk j2 c⟩,zf [0,1],oN⟩
 rw[Xi oM]at j2;refine zd λq=>?_
 obtain⟨k,hm,c⟩:=e.1 q;exact j2 k hm c
def zoZ{s:Sc}(hi:inS s i){k:Int}(hk:k∈zaB s i.toNat)(hf:8<=f+1+dN s.ns i.toNat):1<=f/\8<=f+dN s.ns k.toNat:=by
 obtain⟨m,rfl,hm,hd⟩:=zEx hk;have:=yE hi.1 _ (Xf (Xb hm));rw[←zlq (Xb hm)]at this;rw[show((m:Int)).toNat=m from rfl];omega
def zCO(s:Sc)(p:Pt)(ht:jf s):∀(f:Nat) (i:Int),1<=f->(inS s i->8<=f+dN s.ns i.toNat)->CX 24 [wq s,i64 i,wk p] (pr (onB s p f i=true))
 |0,_,h,_=>absurd h dC
 |f+1,i,_,h=>g_on1 s p ht f i λhi k hk=>zCO s p ht f k (zoZ hi hk (by have:=h hi;omega)).1 λ_=>(zoZ hi hk (by have:=h hi;omega)).2
def zCP(s:Sc)(p:Pt)(ht:jf s):∀(f:Nat) (i:Int),1<=f->(inS s i->8<=f+dN s.ns i.toNat)->CX 49 [wq s,i64 i,wk p] (pr (onB s p f i=true))
 |0,_,h,_=>absurd h dC
 |f+1,i,_,h=>k_on1 s p ht f i λhi k hk=>zCP s p ht f k (zoZ hi hk (by have:=h hi;omega)).1 λ_=>(zoZ hi hk (by have:=h hi;omega)).2
def onS(s:Sc)(p:Pt)(i:Int):Bool:=onB s p 8 i
def zCQ{s:Sc}(h:inS s i):8<=((8:Nat):Int)+dN s.ns i.toNat:=by
 obtain⟨n,hn⟩:=uL h;rw[zlq hn];have:=yE h.1 n (Xf hn);omega
def g_on(s:Sc)(p:Pt)(i:Int)(ht:jf s):CX 24 [wq s,i64 i,wk p] (pr (onS s p i=true)):=zCO s p ht 8 i dC zCQ
def k_on(s:Sc)(p:Pt)(i:Int)(ht:jf s):CX 49 [wq s,i64 i,wk p] (pr (onS s p i=true)):=zCP s p ht 8 i dC zCQ
def zrr(f:SV->SV):∀(L:LP) (t:Nat),kK (L.map λp=>(p.1,f p.2)) t=(kK L t).map f
 |[],_=>rfl
 |(k,s)::r,t=>by
  rw[QO,kq,kq]
  by_cases h:k=t
  ·rw[Xe h,Xe h];rfl
  rw[Xc h,Xc h];exact zrr f r t
def zzV(n:Nat){σ:St}:Sub σ ⟨σ.L.map λp=>(p.1,frz (zU σ.M) n p.2),[],σ.nk,σ.nt,σ.n0⟩:=λE ρ a w hr=>by
 have hs:=hr.stp;refine⟨ρ,hr.size,hr.defers,λt s hl=>?_,qt hr.mem.kp λ_ _ h=>hr.mem.glc h,hr.fresh,⟨hs.os,hs.tape,hs.output,hs.size,hs.block,λb hb=>absurd hb zP,hs.rho⟩,hr.keep,hr.low⟩;have hl:kK (σ.L.map λp=>(p.1,frz (zU σ.M) n p.2)) t=some s:=hl;rw[zrr (frz (zU σ.M) n)]at hl
 cases hk:kK σ.L t with
 |none=>rw[hk]at hl;cases hl
 |some u=>
  rw[hk]at hl
  cases hl
  obtain⟨h1,h2⟩:=hr.regs t u hk;exact⟨h1,.d _ _ ((zmF (λk m h=>zA h) hr.mem n h2).less λb hb=>hb.resolve_right zP)⟩
def ndK(s:Sc)(i:Nat):Int:=match s.ns[i]? with
 |some n=>n.k
 |none=>0
def ndI(s:Sc)(i:Int):Int:=match s.ns[i.toNat]? with
 |some n=>n.id
 |none=>0
def zsZ{s:Sc}{i:Nat}{n:Nd}(h:s.ns[i]?=some n):ndK s i=n.k:=by unfold ndK;rw[h]
def zlw{s:Sc}{n:Nd}(h:s.ns[i.toNat]?=some n):ndI s i=n.id:=by unfold ndI;rw[h]
def atL(s:Sc)(p:Pt):Nat->LV
 |0=>[]
 |n+1=>if ndK s n≠1/\onS s p n=true then(n:Int)::atL s p n else atL s p n
def atA(s:Sc)(p:Pt):LV:=atL s p s.ns.length
def yf(s:Sc)(p:Pt):LV:=(atA s p).map (ndI s)
def zlx{s:Sc}{n:Nat}(h:ndK s n≠1/\onS s p n=true):atL s p (n+1)=(n:Int)::atL s p n:=Xe h
def zzW{s:Sc}{n:Nat}(h:¬(ndK s n≠1/\onS s p n=true)):atL s p (n+1)=atL s p n:=Xc h
def zuI{s:Sc}{p:Pt}:∀{n:Nat} {i:Int},i∈atL s p n->0<=i/\i<n
 |n+1,i,h=>by
  unfold atL at h
  split at h
  ·rcases XY.1 h with rfl|h
   ·omega
   have:=zuI h;omega
  have:=zuI h;omega
def zuJ(s:Sc)(p:Pt):∀(m n:Nat),(atL s p (n+m)).drop ((atL s p (n+m)).length-(atL s p n).length)=atL s p n/\(atL s p n).length<=(atL s p (n+m)).length
 |0,n=>by rw[XP,QJ];exact⟨rfl,Xk _⟩
 |m+1,n=>by
  obtain⟨h1,h2⟩:=zuJ s p m n;rw[←KB]
  by_cases c:ndK s (n+m)≠1/\onS s p (n+m:Nat)=true
  ·rw[zlx c,Xn,show(atL s p (n+m)).length+1-(atL s p n).length=(atL s p (n+m)).length-(atL s p n).length+1 by omega,List.drop_succ_cons];exact⟨h1,oM⟩
  rw[zzW c];exact⟨h1,h2⟩
def atT(s:Sc)(p:Pt)(n:Nat):Nat:=(atA s p).length-(atL s p n).length
def zuK{s:Sc}{n:Nat}(hn:n+1<=s.ns.length)(h:ndK s n≠1/\onS s p n=true):(atA s p)[atT s p (n+1)]?=some (n:Int)/\atT s p (n+1)+1=atT s p n:=by
 obtain⟨h1,h2⟩:=zuJ s p (s.ns.length-(n+1)) (n+1);rw[show n+1+(s.ns.length-(n+1))=s.ns.length by omega]at h1 h2;have e:=Xg (λl=>l[0]?) h1;rw[Kz,XP,zlx h]at e;rw[zlx h]at h2;refine⟨?_,?_⟩
 ·unfold atT;rw[zlx h];exact e
 unfold atT atA;rw[zlx h];rw[Xn]at h2 ⊢;omega
def zo0{s:Sc}{n:Nat}(h:¬(ndK s n≠1/\onS s p n=true)):atT s p (n+1)=atT s p n:=by unfold atT;rw[zzW h]
def zno(s:Sc)(p:Pt):CX 27 [wq s,wk p] (.dfn 50 [.dptr (scE s),.dptr (ptE p)]):=by
 exact uY 1 tok mix func27 rfl rfl rfl<|.refl
def zh8(s:Sc)(p:Pt):CX 12 [wq s,wk p] (.dfn 26 [.dptr (scE s),.dptr (ptE p)]):=by
 exact uY 1 tok mix func12 rfl rfl rfl<|.refl
def zCR(s:Sc)(p:Pt)(ht:jf s):zfb prog 50 [.dptr (scE s),.dptr (ptE p)] zN (atA s p):=by
 refine zi5 (caps:=[.dptr (scE s),.dptr (ptE p)]) (enc:=zN) (xs:=atA s p) tok mix func50 rfl rfl rfl rfl (λl=>?_);intro hl0;refine wa<|⟨Nat,λj=>⟨[(4,i64 ((j:Int)-1)),(2,.dptr (ptE p)),(1,.dptr (scE s)),(0,.val (.func (.yield l) #[] #[]))],[],0,32,0⟩,λj=>atT s p j,λj=>j<=s.ns.length,λj=>j,s.ns.length,Xk _,?_,(QJ _).symm,rfl,?_⟩
 ·exact zB []
 rintro j hj
 have hj:j<=s.ns.length:=hj;refine⟨λg:0<=(j:Int)-1=>?_,λg=>?_⟩
 ·obtain⟨k,rfl⟩:∃k,j=k+1:=⟨j-1,oM⟩;have ek:((k+1:Nat):Int)-1=(k:Int):=oM;have en1:some (i64 (((k+1:Nat):Int)-1-1))=some (i64 ((k:Int)-1)):=by rw[ek]
  refine wb λn hn=>?_;have en:=zsZ (show s.ns[k]?=some n by rw[←hn,ek];rfl);refine⟨λc:¬n.k=1=>?_,λc=>?_⟩
  ·refine wg (g_on s p (((k+1:Nat):Int)-1) ht)<|⟨λd=>?_,λd=>?_⟩
   ·have hc:ndK s k≠1/\onS s p k=true:=⟨by rw[en];exact c,by rw[ek]at d;exact d⟩;obtain⟨a1,a2⟩:=zuK hj hc;refine⟨rfl,(k:Int),a1,rfl,.cons (ze ek) .nil,(λk m h=>by cases h),?_⟩;refine Br.mk ?_ (.inl rfl);exact wa<|⟨k,oM,ji [] ⟨en1,rfl,rfl,rfl,tV⟩ trivial,a2,rfl,oN⟩
   have hc:¬(ndK s k≠1/\onS s p k=true):=λh=>d (by rw[ek];exact h.2)
   exact wa<|⟨k,oM,ji [] ⟨en1,rfl,rfl,rfl,tV⟩ trivial,zo0 hc,rfl,oN⟩
  have hc:¬(ndK s k≠1/\onS s p k=true):=λh=>c (by rw[←en];exact h.1)
  exact wa<|⟨k,oM,ji [] ⟨en1,rfl,rfl,rfl,tV⟩ trivial,zo0 hc,rfl,oN⟩
 obtain rfl:j=0:=by have g:¬0<=(j:Int)-1:=g;omega
 exact .inr (by unfold atT;rfl)
def zs0(s:Sc)(p:Pt)(ht:jf s):zfb prog 26 [.dptr (scE s),.dptr (ptE p)] zN (yf s p):=by
 refine zzU (caps:=[.dptr (scE s),.dptr (ptE p)]) (enc:=zN) (xs:=yf s p) tok mix func26 rfl rfl rfl rfl (λl=>?_);refine wg (zno s p)<|⟨rfl,rfl,Int,zN,atA s p,[(3,.dptr [.val (.func (.yield l) #[] #[])]),(1,.dptr (scE s))],1,zCR s p ht,λ_=>rfl,⟨rfl,rfl,rfl⟩,(Xx _).symm,(zzV 1).trans (zB []),?_⟩;intro j y hy;have hm:=zuI (Xf hy);refine .split 7 (Ob.mk (by decide +kernel) ?_);refine Ob.mk hm λn hn=>?_
 refine⟨rfl,ndI s y,by unfold yf;rw[XD,hy];rfl,rfl,.cons (ze (zlw hn).symm) .nil,(λk m h=>by cases h),?_⟩;exact Br.mk ⟨rfl,rfl⟩ rfl
abbrev zrs(T:TypeId):Mem:=.box T [.sl ptE (List.replicate 9223372036854775808 zp)]
def zeP{σ:St}{k:Nat}{T:TypeId}(h:(k,zrs T)∈σ.M):¬zyk σ:=λ⟨E,ρ,a,w,hr⟩=>by
 obtain⟨b,vs,_,_,hl,_,hg⟩:=hr.mem.rel k _ h
 cases vs with
 |nil=>cases hl
 |cons v vs=>exact zub (hg 0 _ v rfl rfl)
def firE(l:LV):SV:=.tup [i64 (l.headD 0),pr (0<l.length)]
def firS(j:Nat):LT:=match j with
 |0=>[(0,.box 3 [i64 0]),(1,.box 4 [bl false])]
 |_+1=>[(0,.box 3 [i64 0]),(1,.box 4 [bl false]),(2,zrs 3)]
def zzX(s:Sc)(p:Pt)(ht:jf s):CX 13 [wq s,wk p] (firE (yf s p)):=by
 refine ug 1 tok mix func13 rfl rfl rfl<|wg (zh8 s p) ?_
 refine⟨Int,zN,yf s p,2,[(4,.loc 0 0),(5,.loc 1 0)],firS,λ_=>3,zs0 s p ht,λ_=>rfl,⟨rfl,rfl,rfl,rfl⟩,
  zf [2,3],⟨Xh _,rfl⟩,λj=>?_,?_,?_⟩
 ·intro k m hm
  cases j <;> (unfold firS at hm;simp only[XY,XR,or_false,Kt]at hm)
  ·obtain⟨_,rfl⟩|⟨_,rfl⟩:=hm <;> rfl
  obtain⟨_,rfl⟩|⟨_,rfl⟩|⟨_,rfl⟩:=hm <;> rfl
 ·intro j y hy hL
  cases j with
  |succ j=>exact absurd hL (zeP (k:=2) (T:=3) (.tail _ (.tail _ (.head _))))
  |zero=>
   cases h:yf s p with
   |nil=>rw[h]at hy;cases hy
   |cons a r=>
    rw[h]at hy;obtain rfl:a=y:=Xm hy;refine⟨[(0,.box 3 [i64 a]),(1,.box 4 [bl true])],3,zf [0,1],λk m hm=>?_,zM .refl (zH (Nat.succ_pos _))⟩;simp only[XY,XR,or_false,Kt]at hm
    obtain⟨_,rfl⟩|⟨_,rfl⟩:=hm <;> rfl
 intro hL
 cases h:yf s p with
 |nil=>exact zM .refl (zd dC)
 |cons a r=>rw[h]at hL;exact absurd hL (zeP (k:=2) (T:=3) (.tail _ (.tail _ (.head _))))
def zeV(s:Sc)(p:Pt):LV:=match atA s p with
 |[]=>[]
 |i::_=>(qq s i).map (ndI s)
def wayS(s:Sc)(j:Nat):LT:=match j with
 |0=>[(0,.box 26 (scE s)),(1,.box 31 [.own 2]),(2,.arr 3 zN 1 [])]
 |_+1=>[(0,.box 26 (scE s)),(1,.box 31 [.own 2]),(2,.arr 3 zN 1 []),(3,zrs 3)]
def znp(s:Sc)(i:Int):(qq s i).length<=64:=by
 unfold qq;split
 ·rename_i h;obtain⟨n,hn⟩:=uL h;obtain⟨i,rfl⟩:∃q:Nat,i=(q:Int):=⟨i.toNat,by have:=h.2.1;omega⟩;have hn:s.ns[i]?=some n:=hn;have hd:=yE h.1 n (Xf hn);have:=zeO (zal h.1) (d:=n.d.toNat) (i:=i) (by rw[yQ hn];congr 1;omega);rw[Xx,KU,this];omega
 exact Xh _
def zzY(s:Sc)(p:Pt)(ht:jf s):CX 15 [wq s,wk p] (.sl zN (zeV s p)):=by
 refine ug 1 tok mix func15 rfl rfl rfl<|wg (zno s p) ?_
 refine⟨Int,zN,atA s p,2,[(2,.loc 0 0),(5,.loc 1 0)],wayS s,λ_=>4,zCR s p ht,λ_=>rfl,⟨rfl,rfl,rfl,rfl⟩,
  zB [(0,some 0),(1,some 2),(2,none)],⟨Xh _,rfl⟩,λj=>?_,?_,?_⟩
 ·intro k m hm
  cases j <;> (unfold wayS at hm;simp only[XY,XR,or_false,Kt]at hm)
  ·obtain⟨_,rfl⟩|⟨_,rfl⟩|⟨_,rfl⟩:=hm <;> first|rfl|trivial
  obtain⟨_,rfl⟩|⟨_,rfl⟩|⟨_,rfl⟩|⟨_,rfl⟩:=hm <;> first|rfl|trivial
 ·intro j y hy hL
  cases j with
  |succ j=>exact absurd hL (zeP (k:=3) (T:=3) (.tail _ (.tail _ (.tail _ (.head _)))))
  |zero=>
  have hs:=znp s y;refine wg (zCL s y ht.tame) λhl=>?_
  have e:zeV s p=(qq s y).map (ndI s):=by
   unfold zeV
   cases hL:atA s p with
   |nil=>rw[hL]at hy;cases hy
   |cons a r=>rw[hL]at hy;rw[show y=a from(Xm hy).symm]
  refine⟨Nat,λq=>⟨[(17,i64 q),(16,i64 ((qq s y).length:Int)),(15,.sl zN (qq s y)),(5,.loc 1 0),(2,.loc 0 0)],[(0,.box 26 (scE s)),(1,.box 31 [.own 2]),(2,.arr 3 zN 1 (((qq s y).take q).map (ndI s)))],4,32,2⟩,
   λq=>q<=(qq s y).length,λq=>(qq s y).length-q,0,Xh _,zf [0,1,2],?_⟩
  rintro q hq
  have hq:q<=(qq s y).length:=hq;refine⟨λg:(q:Int)<(qq s y).length=>?_,λg=>?_⟩
  ·refine wb λk(hk:(qq s y)[q]?=some k)=>?_;obtain⟨_,hi⟩:=zlt (Xf hk);have hlen:(((qq s y).take q).map (ndI s)).length<=64:=by rw[Xx,Xo];omega
   refine wd<|Ob.mk hi.2 λn hn=>?_;refine⟨Int,zN,[n.id],rfl,wb4 ?_⟩;refine⟨[n.id],rfl,Ob.mk ⟨by show(((((qq s y).take q).map (ndI s)).length:Int)+1)*8<=_;omega,by rw[X0];omega,dC,λx hx=>by rw[Xu.1 hx];rfl⟩ ?_⟩;exact wh<|wa<|⟨q+1,by show q+1<=(qq s y).length;omega,zu [0,1,5] ⟨rfl,rfl,aR (by rw[Xl,hk,XA,←zlw hn];rfl),tV⟩,oN⟩
  obtain rfl:q=(qq s y).length:=by have g:¬(q:Int)<(qq s y).length:=g;omega
  refine⟨[(0,.box 26 (scE s)),(1,.box 31 [.own 2]),(2,.arr 3 zN 1 (zeV s p))],4,zu [0,1,2] ⟨rfl,rfl,aR (by rw[e,X1]),tV⟩,λk m hm=>?_,.refl⟩;simp only[XY,XR,or_false,Kt]at hm
  obtain⟨_,rfl⟩|⟨_,rfl⟩|⟨_,rfl⟩:=hm <;> first|rfl|trivial
 intro hL;unfold zeV
 cases h:atA s p with
 |nil=>exact .refl
 |cons a r=>rw[h]at hL;exact absurd hL (zeP (k:=3) (T:=3) (.tail _ (.tail _ (.tail _ (.head _)))))
def zrt(s:Sc)(p:Pt):∀n,(atL s p n).length<=n
 |0=>Xk _
 |n+1=>by
  have:=zrt s p n;unfold atL;split <;> (try rw[Xn]) <;> omega
def zuL{s:Sc}{p:Pt}(h:¬jE s):∀n,atL s p n=[]
 |0=>rfl
 |n+1=>by rw[zzW λc=>zoY (f:=7) (λk=>h k.1.1) c.2];exact zuL h n
def zly(s:Sc)(p:Pt):(atA s p).length<=64:=by
 by_cases h:jE s
 ·have:=zrt s p s.ns.length;have:=ul h;unfold atA;omega
 unfold atA;rw[zuL h];decide
def znq(s:Sc)(p:Pt):(yf s p).length<=64:=by
 unfold yf;rw[Xx];exact zly s p
def zCS(s:Sc)(p:Pt)(ht:jf s):CX 11 [wq s,wk p] (.sl zN (yf s p)):=by
 refine ug 1 tok mix func11 rfl rfl rfl ?_;have hs:=znq s p;refine wg (zh8 s p) ?_
 refine⟨Int,zN,yf s p,1,[(5,.loc 0 0)],λj=>[(0,.box 31 [.own 1]),(1,.arr 3 zN 1 ((yf s p).take j))],λ_=>2,zs0 s p ht,λ_=>rfl,⟨rfl,rfl,rfl,rfl⟩,
  zB [(0,some 2),(1,none)],⟨Xh _,rfl⟩,λj=>?_,?_,?_⟩
 ·intro k m hm;simp only[XY,XR,or_false,Kt]at hm
  obtain⟨_,rfl⟩|⟨_,rfl⟩:=hm <;> first|rfl|trivial
 ·intro j y hy _;have hlt:((yf s p).take j).length<=1000:=by rw[Xo];omega
  refine⟨Int,zN,[y],rfl,wb4 ?_⟩;refine⟨[y],rfl,Ob.mk ⟨by show((((yf s p).take j).length:Int)+1)*8<=_;omega,by rw[X0];omega,dC,λx hx=>by rw[Xu.1 hx];rfl⟩ ?_⟩;exact zu [0,3] ⟨rfl,aR (by rw[Xl,hy];rfl),tV⟩
 exact λ_=>zZ X1
def zB9{a b:LV}{i:Nat}{y:Int}(hx:a[i]?=some x)(hy:b[i]?=some y)(h:a.take i=b.take i):a.take (i+1)=b.take (i+1)↔x=y:=by
 rw[Xl,Xl,hx,hy,h];simp
def zh9(a b:LV):CX 10 [.sl zN a,.sl zN b] (pr (a=b)):=by
 refine zc func10 λl1=>?_;intro l2;refine⟨λh=>zd λk=>h (by rw[k]),λh=>?_⟩;have h:¬¬(a.length:Int)=b.length:=h;refine⟨Nat,λi=>⟨[(5,i64 i),(1,.sl zN b),(0,.sl zN a)],[],0,26,0⟩,λi=>i<=a.length/\a.take i=b.take i,λi=>a.length-i,0,⟨Xh _,rfl⟩,zB [],?_⟩
 rintro i ⟨hi,he⟩
 intro l3;refine⟨λg:(i:Int)<a.length=>?_,λg:¬(i:Int)<a.length=>?_⟩
 ·refine wc<|wb λx hx=>wb λy hy=>?_;have e:=zB9 hx hy he;refine⟨λc=>zd λk=>c (e.1 (by rw[k])),λc=>?_⟩;exact wa<|⟨i+1,⟨oM,e.2 (Xa.1 c)⟩,zB [],oN⟩
 rw[Xi oM,Xi oM]at he;exact zH he
def zEB{s:Sc}{n:Nat}(hn:n+1<=s.ns.length)(h:ndK s n≠1/\onS s p n=true):(atA s p).take (atT s p (n+1))++[(n:Int)]=(atA s p).take (atT s p n):=by
 obtain⟨a1,a2⟩:=zuK hn h;rw[←a2,Xl,a1];rfl
def zEC(s:Sc)(p:Pt):(atA s p).take (atT s p 0)=atA s p:=X1
def zru(s:Sc)(p:Pt)(ht:jf s):CX 25 [wq s,wk p] (.sl zN (atA s p)):=by
 refine zc func25 ?_;have hs:=zly s p;intro hl0;refine wa<|⟨Nat,λj=>⟨[(6,i64 ((j:Int)-1)),(5,.own 2),(3,.loc 1 0),(2,.loc 0 0)],[(0,.box 26 (scE s)),(1,.box 28 (ptE p)),(2,.arr 3 zN 1 ((atA s p).take (atT s p j)))],3,33,0⟩,λj=>j<=s.ns.length,λj=>j,s.ns.length,Xk _,?_,?_⟩
 ·exact zby [(0,some 0),(1,some 1),(2,none)] ⟨rfl,rfl,zuE (by rw[show atT s p s.ns.length=0 from QJ _];rfl),tV⟩
 rintro j hj
 have hj:j<=s.ns.length:=hj;have hll:((atA s p).take (atT s p j)).length<=1000:=by rw[Xo];omega
 refine⟨λg:0<=(j:Int)-1=>?_,λg=>?_⟩
 ·obtain⟨k,rfl⟩:∃k,j=k+1:=⟨j-1,oM⟩;have ek:((k+1:Nat):Int)-1=(k:Int):=oM;have en1:some (i64 (((k+1:Nat):Int)-1-1))=some (i64 ((k:Int)-1)):=by rw[ek]
  refine wb λn hn=>?_;have en:=zsZ (show s.ns[k]?=some n by rw[←hn,ek];rfl);refine⟨λc:¬n.k=1=>?_,λc=>?_⟩
  ·refine wg (k_on s p (((k+1:Nat):Int)-1) ht)<|⟨λd=>?_,λd=>?_⟩
   ·have hc:ndK s k≠1/\onS s p k=true:=⟨by rw[en];exact c,by rw[ek]at d;exact d⟩;refine⟨Int,zN,[((k+1:Nat):Int)-1],rfl,wb4 ?_⟩;refine⟨[((k+1:Nat):Int)-1],rfl,Ob.mk ⟨by show((((atA s p).take (atT s p (k+1))).length:Int)+1)*8<=_;omega,by rw[X0];omega,dC,λx hx=>by rw[Xu.1 hx];rfl⟩ ?_⟩;exact wa<|⟨k,by show k<=_;omega,zS [0,1,4] ⟨en1,rfl,rfl,rfl,tV⟩ ⟨rfl,rfl,aR (by rw[ek];exact zEB hj hc),tV⟩,oN⟩
   have hc:¬(ndK s k≠1/\onS s p k=true):=λh=>d (by rw[ek];exact h.2)
   exact wa<|⟨k,by show k<=_;omega,zS [0,1,2] ⟨en1,rfl,rfl,rfl,tV⟩ ⟨rfl,rfl,Xg (λq=>some (Mem.arr 3 zN 1 ((atA s p).take q))) (zo0 hc),tV⟩,oN⟩
  have hc:¬(ndK s k≠1/\onS s p k=true):=λh=>c (by rw[←en];exact h.1)
  exact wa<|⟨k,by show k<=_;omega,zS [0,1,2] ⟨en1,rfl,rfl,rfl,tV⟩ ⟨rfl,rfl,Xg (λq=>some (Mem.arr 3 zN 1 ((atA s p).take q))) (zo0 hc),tV⟩,oN⟩
 obtain rfl:j=0:=by have g:¬0<=(j:Int)-1:=g;omega
 exact zZ (zEC s p)
def zrv{s:Sc}{q:Nat}{k:Int}{n:Nd}(hk:l[q]?=some k)(hn:s.ns[k.toNat]?=some n):(l.take q).map (ndI s)++[n.id]=(l.take (q+1)).map (ndI s):=by
 rw[Xl,hk,XA,←zlw hn];rfl
def znr(s:Sc)(p:Pt)(ht:jf s):CX 9 [wq s,wk p] (.sl zN (yf s p)):=by
 refine zc func9 ?_;have hs:=zly s p;refine wg (zru s p ht)<|⟨Nat,λq=>⟨[(7,i64 q),(6,.own 2),(5,.sl zN (atA s p)),(2,.loc 0 0)],[(0,.box 26 (scE s)),(2,.arr 3 zN 1 (((atA s p).take q).map (ndI s)))],3,30,0⟩,λq=>q<=(atA s p).length,λq=>(atA s p).length-q,0,Xh _,?_,?_⟩
 ·exact zB [(0,some 0),(2,none)]
 rintro q hq
 have hq:q<=(atA s p).length:=hq;have hll:(((atA s p).take q).map (ndI s)).length<=1000:=by rw[Xx,Xo];omega
 intro hl;refine⟨λg:(q:Int)<(atA s p).length=>?_,λg:¬(q:Int)<(atA s p).length=>?_⟩
 ·refine wc<|wb λk(hk:(atA s p)[q]?=some k)=>?_;refine Ob.mk (zuI (Xf hk)) λn hn=>?_;refine⟨Int,zN,[n.id],rfl,wb4 ?_⟩;refine⟨[n.id],rfl,Ob.mk ⟨by show(((((atA s p).take q).map (ndI s)).length:Int)+1)*8<=_;omega,by rw[X0];omega,dC,λx hx=>by rw[Xu.1 hx];rfl⟩ ?_⟩;refine wa ?_
  exact⟨q+1,by show q+1<=(atA s p).length;omega,zby [(0,some 0),(2,some 4)] ⟨rfl,aR (zrv hk hn),tV⟩,oN⟩
 exact zZ (by rw[Xi oM];rfl)
def k_top(s:Sc)(p:Pt)(ht:jf s):CX 14 [wq s,wk p] (firE (yf s p)):=by
 refine zc func14<|wg (znr s p ht) λhl=>?_;refine⟨λg=>?_,λg:¬((yf s p).length:Int)=0=>?_⟩
 ·have e:yf s p=[]:=Xp (by have g:((yf s p).length:Int)=0:=g;omega);rw[e];exact zM .refl (zd dC)
 refine wb λx hx=>?_;have e:(yf s p).headD 0=x:=by rw[List.headD_eq_head?_getD,QI,show(yf s p)[0]?=some x from hx];rfl
 exact zM (ze e.symm) (zH oM)
def k_way(s:Sc)(p:Pt)(ht:jf s):CX 16 [wq s,wk p] (.sl zN (zeV s p)):=by
 refine zc func16<|wg (zru s p ht) λhl0=>?_;refine⟨λg=>?_,λg:¬((atA s p).length:Int)=0=>?_⟩
 ·have e:atA s p=[]:=Xp (by have g:((atA s p).length:Int)=0:=g;omega);have e2:zeV s p=[]:=by unfold zeV;rw[e]
  rw[e2];exact zC
 refine wc<|wb λy hy=>?_
 have e:zeV s p=(qq s y).map (ndI s):=by
  have hy:(atA s p)[0]?=some y:=hy;unfold zeV
  cases hL:atA s p with
  |nil=>rw[hL]at hy;cases hy
  |cons a r=>rw[hL]at hy;rw[show y=a from(Xm hy).symm]
 have hs:=znp s y;refine wg (zsU s y ht.tame)<|⟨Nat,λq=>⟨[(8,i64 q),(7,.own 2),(6,.sl zN (qq s y)),(2,.loc 0 0)],[(0,.box 26 (scE s)),(2,.arr 3 zN 1 (((qq s y).take q).map (ndI s)))],3,39,0⟩,λq=>q<=(qq s y).length,λq=>(qq s y).length-q,0,Xh _,?_,?_⟩
 ·exact zB [(0,some 0),(2,none)]
 rintro q hq
 have hq:q<=(qq s y).length:=hq;have hll:(((qq s y).take q).map (ndI s)).length<=64:=by rw[Xx,Xo];omega
 intro hl;refine⟨λg:(q:Int)<(qq s y).length=>?_,λg:¬(q:Int)<(qq s y).length=>?_⟩
 ·refine wc<|wb λk(hk:(qq s y)[q]?=some k)=>?_;refine Ob.mk (zlt (Xf hk)).2.2 λn hn=>?_;refine⟨Int,zN,[n.id],rfl,wb4 ?_⟩;refine⟨[n.id],rfl,Ob.mk ⟨by show(((((qq s y).take q).map (ndI s)).length:Int)+1)*8<=_;omega,by rw[X0];omega,dC,λx hx=>by rw[Xu.1 hx];rfl⟩ ?_⟩;refine wa ?_
  exact⟨q+1,by show q+1<=(qq s y).length;omega,zby [(0,some 0),(2,some 4)] ⟨rfl,aR (zrv hk hn),tV⟩,oN⟩
 exact zZ (by rw[Xi oM,e])
def cl_S(q:LX)(hq:q.length<=1000):CX 91 [.sl sgE q] (.sl sgE q):=by
 refine zc func91 ?_
 by_cases h0:q=[]
 rotate_left;refine zeQ.some (λh=>h0 (Xp h)) ?_;rotate_left;refine zeQ.any (Br.mk (by subst h0;exact zC) ?_)
 all_goals
  refine⟨Sg,sgE,[],rfl,wb2 ?_⟩;exact⟨q,rfl,Ob.mk ⟨(by show _*(56:Int)<=_;simp only[Xr];omega),(by simp only[Xr];omega),dC,λ_ _=>rfl⟩ .refl⟩
def cl_I(q:LV)(hq:q.length<=1000):CX 93 [.sl zN q] (.sl zN q):=by
 refine zc func93 ?_
 by_cases h0:q=[]
 rotate_left;refine zeQ.some (λh=>h0 (Xp h)) ?_;rotate_left;refine zeQ.any (Br.mk (by subst h0;exact zC) ?_)
 all_goals
  refine⟨Int,zN,[],rfl,wb2 ?_⟩;exact⟨q,rfl,Ob.mk ⟨(by show _*(8:Int)<=_;simp only[Xr];omega),(by simp only[Xr];omega),dC,λ_ _=>rfl⟩ .refl⟩
def cl_X(q:List Pix)(hq:q.length<=1000):CX 94 [.sl zd2 q] (.sl zd2 q):=by
 refine zc func94 ?_
 by_cases h0:q=[]
 rotate_left;refine zeQ.some (λh=>h0 (Xp h)) ?_;rotate_left;refine zeQ.any (Br.mk (by subst h0;exact zC) ?_)
 all_goals
  refine⟨Pix,zd2,[],rfl,wb2 ?_⟩;exact⟨q,rfl,Ob.mk ⟨(by show _*(4:Int)<=_;simp only[Xr];omega),(by simp only[Xr];omega),dC,λ_ _=>rfl⟩ .refl⟩
def cl_T(q:List zh0)(hq:q.length<=1000):CX 130 [.sl zc4 q] (.sl zc4 q):=by
 refine zc func130 ?_
 by_cases h0:q=[]
 rotate_left;refine zeQ.some (λh=>h0 (Xp h)) ?_;rotate_left;refine zeQ.any (Br.mk (by subst h0;exact zC) ?_)
 all_goals
  refine⟨zh0,zc4,[],rfl,wb2 ?_⟩;exact⟨q,rfl,Ob.mk ⟨(by show _*(16:Int)<=_;simp only[Xr];omega),(by simp only[Xr];omega),dC,λ_ _=>rfl⟩ .refl⟩
def cl_P(q:LY)(hq:q.length<=1000):CG0 129 [.sl yD q] [] (.own 0) [(0,.arr 70 yD 40 q)]:=by
 refine qC tok mix func129 rfl rfl rfl ?_
 by_cases h0:q=[]
 rotate_left;refine zeQ.some (λh=>h0 (Xp h)) ?_;rotate_left;refine zeQ.any (Br.mk ⟨none,.nil rfl,h0⟩ ?_)
 all_goals
  refine⟨Pnt,yD,[],rfl,wb2 ?_⟩;exact⟨q,rfl,Ob.mk ⟨(by show _*(520:Int)<=_;simp only[Xr];omega),(by simp only[Xr];omega),dC,λ_ _=>rfl⟩ ⟨some 1,.own _ rfl,rfl,λ_ _=>rfl⟩⟩
def zaC(a:BI)(h:a.mag.length<=1000000):CX 128 [wl a] (wl a):=by
 exact zc func128<|wd<|wg (zoc a.mag oM)<|wh<|.refl
def zlz:LN:=[[.loc 0 0],[.loc 0 4],[.loc 0 8],[.loc 0 12],[.loc 0 16],[.loc 0 20]]
def zrw:∀(i:Nat) x,zlz[i]?=some x->∃x',zlz[i]?=some x'/\ren.rens [(0,some 0),(1,some 1),(2,some 2)] x=some x':=λi x h=>⟨x,h,by
 have:=Xf h;simp only[zlz,XY,XR,or_false]at this
 rcases this with rfl|rfl|rfl|rfl|rfl|rfl <;> rfl⟩
def zzZ(t:AF)(h:t.le 1000000):CX 90 [wo t] (wo t):=by
 have big:∀q:BR,q.len<=1000000->q.num.mag.length<=1000000/\q.den.mag.length<=1000000:=λq k=>by unfold BR.len at k;omega
 obtain⟨h1,h2,h3,h4,h5,h6⟩:=h;refine zc func90<|⟨zlz,rfl,Ob.mk ⟨rfl,dC,dC,dC,λx hx=>?_⟩ ?_⟩
 ·simp only[zlz,XY,XR,or_false]at hx
  rcases hx with rfl|rfl|rfl|rfl|rfl|rfl <;> rfl
 intro hl;refine⟨Nat,λi=>⟨[(13,i64 i),(12,i64 6),(11,.own 2),(2,.loc 1 0),(1,.loc 0 0)],[(2,.garr 158 1 zlz),(1,.box 57 uf),(0,.box 57 (afE t))],3,32,0⟩,λi=>i<=6,λi=>6-i,0,Xh _,zu [0,1,2] ⟨⟨_,rfl,rfl,zrw⟩,rfl,rfl,tV⟩,?_⟩
 rintro i hi
 have hi:i<=6:=hi;refine⟨λg=>?_,λg=>.refl⟩;have g:(i:Int)<6:=g;refine Ob.mk (show 0<=(i:Int)/\(i:Int)<6 by omega)<|Ob.mk (show 0<=(i:Int)/\(i:Int)<6 by omega) λx(hx:zlz[i]?=some x)=>?_;have hc:i=0∨i=1∨i=2∨i=3∨i=4∨i=5:=oM;obtain⟨k,hk⟩:∃k,i+1=k:=⟨_,rfl⟩
 rcases hc with rfl|rfl|rfl|rfl|rfl|rfl
 all_goals
  cases hx
  refine wd ?_
  first|refine zb.to _ (zaC t.a.num (big _ h1).1) rfl (zb.to _ (zaC t.a.den (big _ h1).2) rfl ?_)|refine zb.to _ (zaC t.b.num (big _ h2).1) rfl (zb.to _ (zaC t.b.den (big _ h2).2) rfl ?_)|refine zb.to _ (zaC t.c.num (big _ h3).1) rfl (zb.to _ (zaC t.c.den (big _ h3).2) rfl ?_)|
   refine zb.to _ (zaC t.d.num (big _ h4).1) rfl (zb.to _ (zaC t.d.den (big _ h4).2) rfl ?_)|refine zb.to _ (zaC t.e.num (big _ h5).1) rfl (zb.to _ (zaC t.e.den (big _ h5).2) rfl ?_)|refine zb.to _ (zaC t.f.num (big _ h6).1) rfl (zb.to _ (zaC t.f.den (big _ h6).2) rfl ?_)
  refine wh<|Ar.fit dC<|⟨k,oM,?_,oN⟩;subst hk;exact zu [0,1,2] ⟨⟨_,rfl,rfl,zrw⟩,rfl,rfl,tV⟩
def zz0{α:Type _}{l:List α}{i:Nat}{x:α}(h:l[i]?=some x):l.set i x=l:=by
 obtain⟨h1,h2⟩:=Xd.1 h;rw[←h2,List.set_getElem_self]
def zns(l:LY)(hl:l.length<=1000)(hp:∀p∈l,ltP p):CX 92 [.sl yD l] (.sl yD l):=by
 refine zc func92<|zb.fresh _ _ (cl_P l hl) rfl (λ_ _=>rfl) (.inl rfl) λhl0=>?_;refine⟨Nat,λi=>⟨[(10,i64 i),(9,i64 l.length),(3,.own 0)],[(0,.arr 70 yD 40 l)],1,44,0⟩,λi=>i<=l.length,λi=>l.length-i,0,Xh _,zf [0],?_⟩
 intro i hi;have hi:i<=l.length:=hi;refine⟨λg=>?_,λg=>.refl⟩;have g:(i:Int)<l.length:=g;obtain⟨p,hx⟩:∃p,l[i]?=some p:=⟨_,Xb oM⟩;obtain⟨g1,g2,g3⟩:=hp p (Xf hx);have hs:=zz0 hx;have r1:0<=(i:Int)/\(i:Int)<l.length:=oM;refine Ob.mk r1 ?_;have get:∀z,l[(i:Int).toNat]?=some z->z=p:=λz hz=>Xm ((show l[i]?=some z from hz).symm.trans hx)
 refine wd<|Ob.mk r1 λz hz=>?_;rw[get z hz];refine wg (cl_T p.st oM)<|Ob.mk r1 λz hz=>?_;rw[get z hz];refine wg (cl_X p.im.px oM)<|Ob.mk r1 λz hz=>?_;rw[get z hz];refine wg (zzZ p.t (g1.up dC))<|Ob.mk r1 λz hz=>?_;rw[get z hz];refine⟨p,rfl,?_⟩;rw[show l.set (i:Int).toNat p=l from hs];refine Ob.mk r1 λz hz=>?_;rw[get z hz];refine⟨p,rfl,?_⟩;rw[show l.set (i:Int).toNat p=l from hs];refine Ob.mk r1 λz hz=>?_;rw[get z hz];refine⟨p,rfl,?_⟩
 rw[show l.set (i:Int).toNat p=l from hs];exact wh<|wa<|⟨i+1,by show i+1<=l.length;omega,zf [0],oN⟩
def zCa(n:Nd)(h:ltN n):CX 56 [ww n] (ww n):=by
 obtain⟨⟨h1,h2,h3,h4,h5,h6,h7⟩,h8⟩:=h;refine zc func56<|wg (zzZ n.t (h5.up dC))<|wd<|wg (cl_S n.clip oM)<|wg (cl_S n.path oM)<|wh ?_;refine wd<|wg (zns n.fill oM λp hp=>h8 p (Qg _ hp))<|wg (zns n.strk oM λp hp=>h8 p (Qu _ hp))<|wh<|wd<|wg (cl_I n.pen.d oM) ?_;exact wg (cl_X n.im.px oM)<|wh<|.refl
def zz1(s:Sc)(hl:s.ns.length<=1000)(h:∀n∈s.ns,ltN n):CX 31 [wq s] (wq s):=by
 refine zc func31 λhl0=>?_;refine⟨Nat,λi=>⟨[(11,i64 i),(10,i64 s.ns.length),(9,.sl ndE s.ns),(3,.loc 2 0),(2,.loc 1 0)],[(3,nArr (s.ns.take i)),(2,.box 26 (scO s 3)),(1,.box 26 (vals [.int .i64 0,.int .i64 0,.int .u8 0,.int .u8 0,.int .u8 0,.int .u8 0,.slice none 0 0]))],4,24,0⟩,λi=>i<=s.ns.length,λi=>s.ns.length-i,0,Xh _,zB [(1,some 1),(2,some 2),(3,none)],?_⟩
 intro i hi;have hi:i<=s.ns.length:=hi;refine⟨λg:(i:Int)<s.ns.length=>?_,λg:¬(i:Int)<s.ns.length=>?_⟩
 ·refine wb λn(hx:s.ns[i]?=some n)=>?_;refine wd<|wg (zCa n (h n (Xf hx)))<|⟨Nd,ndE,[n],rfl,wb4 ?_⟩;have hlen:(s.ns.take i).length<=1000:=by rw[Xo];omega
  refine⟨[n],rfl,Ob.mk ⟨by show(((s.ns.take i).length:Int)+1)*_<=_;dsimp only;omega,by show(s.ns.take i).length+1<=_;omega,dC,λx hx=>by rw[Xu.1 hx];rfl⟩ ?_⟩;exact wh<|wa<|⟨i+1,by show i+1<=_;omega,zby [(1,some 1),(2,some 2),(3,some 6)] ⟨Xg (λq=>some (nArr q)) (by rw[Xl,hx];rfl),rfl,rfl,tV⟩,oN⟩
 exact jj (.C (.C (.C (.C (.C (.C (.cons (zZ (Xi oM)) .nil)))))))
def zED(p q:Pt)(hp:zr p)(hq:zr q):zr (mnP p q):=by unfold zr mnP at*;dsimp only;omega
def zEE(p q:Pt)(hp:zr p)(hq:zr q):zr (mxP p q):=by unfold zr mxP at*;dsimp only;omega
variable{rs:LQ}
def zz2(h:zha rs):zr (loR rs)/\zr (hiR rs):=by
 have hp:∀r∈rs.flatten,zr r:=λp hp=>by
  obtain⟨r,hr,hpr⟩:=J2.1 hp;exact h.2.2 r hr p hpr
 unfold loR hiR;rw[Xe h,Xe h];exact⟨zx7 zED hp,zx7 zEE hp⟩
def upI(n:Int):Int:=(n+256-1)/2^8
def p_up(n:Int)(h: -1048576<=n/\n<=1048576):CX 96 [i64 n] (i64 (upI n)):=by
 refine zc func96 ?_;(iterate 2 refine wa ?_);exact Ob.mk dC .refl
def zlA(rs:LQ):Rc:=⟨(loR rs).x/2^8,(loR rs).y/2^8,upI (hiR rs).x,upI (hiR rs).y⟩
def pixR(rs:LQ):Rc:=if¬zha rs then ye else if (zlA rs).x1<=(zlA rs).x0∨(zlA rs).y1<=(zlA rs).y0 then ye else zlA rs
def hi_in(h:zha rs):(-1048576<=(hiR rs).x/\(hiR rs).x<=1048576)/\ -1048576<=(hiR rs).y/\(hiR rs).y<=1048576:=by
 have:=(zz2 h).2;unfold zr at this;omega
def zEF(rs:LQ)(hc:kL rs):CX 57 [.sl zk rs] (wv (pixR rs)):=by
 refine zc func57<|wg (zEv rs (by have:=hc.1;omega))<|⟨λh=>zfh (p:=ye) (Xe h).symm,λh=>?_⟩;have hi:=hi_in (Xa.1 h);have e1:pixR rs=if (zlA rs).x1<=(zlA rs).x0∨(zlA rs).y1<=(zlA rs).y0 then ye else zlA rs:=Xc h
 refine wd<|wb1<|wb1<|wg (p_up _ hi.1)<|wg (p_up _ hi.2)<|wh ?_;refine⟨λa=>zfh (p:=ye) (by rw[e1,Xe (.inl a)]),λa=>?_⟩;refine⟨λb=>zfh (p:=ye) (by rw[e1,Xe (.inr b)]),λb=>?_⟩;exact zfh (p:=zlA rs) (by rw[e1,Xc (λk=>k.elim a b)])
def zws(a b:Rc):Rc:=if a.mt then b.canon else if b.mt then a else⟨min a.x0 b.x0,min a.y0 b.y0,max a.x1 b.x1,max a.y1 b.y1⟩
def zuM(a b:Rc):CX 33 [wv a,wv b] (wv (zws a b)):=by
 refine zc func33<|wg (zeM a)<|⟨λh=>?_,λh=>?_⟩
 ·exact wg (zg9 b)<|zfh (Xe h).symm
 refine wg (zeM b)<|⟨λk=>?_,λk=>?_⟩
 ·exact zfh (by unfold zws;rw[Xc h,Xe k])
 exact zfh (p:=⟨min a.x0 b.x0,min a.y0 b.y0,max a.x1 b.x1,max a.y1 b.y1⟩) (by unfold zws;rw[Xc h,Xc k])
def boxN(ls:List LQ):Rc:=ls.foldl (λb l=>zws b (pixR l)) ye
def zlT(s:Sc)(i:Int):Rc:=boxN (zaA s i)
def zCT(l:LQ):LR:=[.sl zk l]
def zEG(s:Sc)(i:Int)(ht:jf s):CX 32 [wq s,i64 i] (wv (zlT s i)):=by
 have hg:=zcY s i;refine zc func32<|wd<|wg (zuv s i ht)<|wg (zuz s i ht)<|wg (zzN s i ht)<|⟨LQ,zCT,zaA s i,rfl,wb0 ?_⟩;intro hl;refine wh<|⟨Nat,λn=>⟨[(19,i64 n),(18,i64 3),(17,.own 3),(5,.loc 2 0),(4,.loc 1 0)],[(3,.arr 94 zCT 1 (zaA s i)),(2,.box 47 (rcE (boxN ((zaA s i).take n)))),(1,.box 47 (rcE ye))],4,29,0⟩,λn=>n<=3,λn=>3-n,0,Xh _,?_,?_⟩
 ·exact zB [(1,some 1),(2,some 2),(3,some 3)]
 rintro n hn
 have hn:n<=3:=hn;refine⟨λg:(n:Int)<3=>?_,λg=>?_⟩
 ·have r1:0<=(n:Int)/\(n:Int)<(zaA s i).length:=⟨oM,g⟩;refine Ob.mk r1<|Ob.mk r1 λl(hx:(zaA s i)[n]?=some l)=>?_;refine wd<|wg (zEF l (hg l (Xf hx)))<|wg (zuM (boxN ((zaA s i).take n)) (pixR l))<|wh<|wa ?_
  exact⟨n+1,by show n+1<=3;omega,zby [(1,some 1),(2,some 2),(3,some 3)] ⟨rfl,bR rcE (by unfold boxN;rw[Xl,hx,KV];rfl),rfl,tV⟩,oN⟩
 obtain rfl:n=3:=by have g:¬(n:Int)<3:=g;omega
 exact .refl
end Go.Gs
