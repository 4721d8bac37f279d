/- What a node contains, both texts. -/
import Derived.Test.YtkngjacccoklaaaGreatDoorMA
import Derived.Test.YtkngjacccoklaaaGreatDoorMBF
import Derived.Test.YtkngjacccoklaaaGreatDoorMBB
import Derived.Test.YtkngjacccoklaaaGreatDoorMBA
import Derived.Test.YtkngjacccoklaaaGreatDoorMBE
import Derived.Test.YtkngjacccoklaaaGreatDoorMAO
import Derived.Test.YtkngjacccoklaaaGreatDoorMAP
import Derived.Test.YtkngjacccoklaaaGreatDoorChecked
set_option maxRecDepth 100000
set_option maxHeartbeats 8000000
set_option linter.all false
namespace Go.Gs
open Go.Proofs
def zoV(s:Sc)(p:Pt)(k:Int):Prop:=0<(zZ s k).clip.length->uu (zm7 s k) (zZ s k).cr p
instance (s:Sc) (p:Pt) (k:Int):Decidable (zoV s p k):=inferInstanceAs (Decidable (_->_))
def uR(s:Sc)(i:Int)(p:Pt):Prop:=inS s i/\zr p/\∀k∈je s i,zoV s p k
instance (s:Sc) (i:Int) (p:Pt):Decidable (uR s i p):=inferInstanceAs (Decidable (_/\_))
def zng(s:Sc)(k:Int):kL (zm7 s k):=by
 unfold zm7;split
 ·exact za0
 exact zh6 _ _
variable{i:Int}
def zoW{s:Sc}{k:Int}(h:k∈je s i):inS s i/\inS s k:=by
 unfold je at h
 split at h
 ·rename_i hi;obtain⟨a,ha,rfl⟩:=XP.1 h;obtain⟨i,rfl⟩:∃q:Nat,i=(q:Int):=⟨i.toNat,by have:=hi.2.1;omega⟩;have:=zrr (i+1) i oM a (List.mem_reverse.1 ha);exact⟨hi,hi.1,oM,by have:=hi.2.2;omega⟩
 cases h
def zEE{s:Sc}(h:inS s i):(je s i).length≠0:=by
 obtain⟨i,rfl⟩:∃q:Nat,i=(q:Int):=⟨i.toNat,by have:=h.2.1;omega⟩;rw[show je s i=_ from Xe h,jq];simp
def zhb{s:Sc}{k:Int}(h:inS s k){n:Nd}(hn:s.ns[k.toNat]?=some n):n=zZ s k:=(zcY h hn).symm
variable{l:List Int}{j:Nat}{x:Int}
def zco{P:Int->Prop}(hx:l[j]?=some x)(h:∀k∈l.take j,P k)(hp:P x):∀k∈l.take (j+1),P k:=λk hk=>by
 rw[Xl,hx]at hk
 rcases Xs.1 hk with q|q
 ·exact h k q
 rw[show k=x by simpa using q];exact hp
def zB3(s:Sc)(i:Int)(p:Pt)(ht:jE s):CG0 17 [.agg (scE s),i64 i,.agg (ptE p)] [] (pr (uR s i p)) []:=by
 refine zc Tryz.func17 ?_;refine zb.t (zCK s i ht.tame) ?_;intro hl0;refine⟨λh=>zd λk=>zEE k.1 (by have h:((je s i).length:Int)=0:=h;omega),λh=>?_⟩;have h:¬((je s i).length:Int)=0:=h;refine zb.t (k8 p)<|⟨λh=>zd λk=>h k.2.1,λh1=>?_⟩;have h1:zr p:=Xa.1 h1;intro hl
 refine⟨Nat,λj=>⟨[(25,i64 (j:Int)),(24,i64 ((je s i).length:Int)),(23,.sl zV (je s i)),(5,.loc 1 0),(3,.loc 0 0)],[(1,.box 28 (ptE p)),(0,.box 26 (scE s))],2,49,0⟩,
  λj=>j<=(je s i).length/\∀k∈(je s i).take j,zoV s p k,λj=>(je s i).length-j,0,⟨Xh _,λk hk=>by cases hk⟩,?_,?_⟩
 ·exact zf [0,1]
 rintro j ⟨j1,j2⟩
 refine⟨λg=>?_,λg=>?_⟩
 ·have g:(j:Int)<(je s i).length:=g;refine Ob.o ?_;intro k hk;have hk:(je s i)[j]?=some k:=hk;have hm:=Xf hk;obtain⟨_,hi⟩:=zoW hm;refine zb.t (zBM s k ht)<|Dr.k<|Br.mk (λc=>?_) (λc=>?_)
  ·refine Ob.mk hi.2 ?_;intro n hn;rw[zhb hi hn];refine zb.t (zg9 _ _ p (zng s k))<|⟨λq=>zd λz=>q (z.2.2 k hm c),λq=>?_⟩;exact Ar.o<|⟨j+1,⟨oM,zco hk j2 λ_=>Xa.1 q⟩,zf [0,1],by dsimp only;omega⟩
  exact Ar.o<|⟨j+1,⟨oM,zco hk j2 λq=>absurd q c⟩,zf [0,1],by dsimp only;omega⟩
 have g:¬(j:Int)<(je s i).length:=g;rw[Xi oM]at j2;refine zI ⟨?_,h1,j2⟩;obtain⟨k,hk⟩:∃k,k∈je s i:=Q1 _ λq=>h (by rw[q];rfl)
 exact(zoW hk).1
def zB4(s:Sc)(i:Int):CG0 54 [.agg (scE s),i64 i] [] (pr (0<=i/\i<s.ns.length)) []:=by
 refine zc Tryz.func54 ?_;refine⟨λh=>?_,λh=>zd λk=>h k.1⟩;intro hl;exact zE ⟨λk=>⟨h,k⟩,λk=>k.2⟩
def zB5(s:Sc)(i:Int)(p:Pt)(ht:jE s):CG0 25 [.agg (scE s),i64 i,.agg (ptE p)] [] (pr (uR s i p)) []:=by
 refine zc Tryz.func25 ?_;refine zb.t (zeb s ht.tame)<|⟨λh=>zd λk=>h k.1.1,λh0=>?_⟩;refine zb.t (zB4 s i)<|⟨λh=>zd λk=>h k.1.2,λh1=>?_⟩;refine zb.t (z9 p)<|⟨λh=>zd λk=>h k.2.1,λh2=>?_⟩;have hs:inS s i:=⟨Xa.1 h0,Xa.1 h1⟩;refine zb.t (zzA s i ht.tame) ?_
 refine⟨Nat,λj=>⟨[(8,i64 (j:Int)),(7,.sl zV (je s i)),(5,.loc 1 0),(3,.loc 0 0)],[(1,.box 28 (ptE p)),(0,.box 26 (scE s))],2,59,0⟩,
  λj=>j<=(je s i).length/\∀k∈(je s i).take j,zoV s p k,λj=>(je s i).length-j,0,⟨Xh _,λk hk=>by cases hk⟩,?_,?_⟩
 ·exact zf [0,1]
 rintro j ⟨j1,j2⟩
 intro hl;refine⟨λg=>?_,λg=>?_⟩
 ·have g:(j:Int)<(je s i).length:=g;refine Dr.k<|Ob.o ?_;intro k hk;have hk:(je s i)[j]?=some k:=hk;have get:∀z,(je s i)[j]?=some z->z=k:=λz hz=>Xm (hz.symm.trans hk)
  have hm:=Xf hk;obtain⟨_,hi⟩:=zoW hm;refine zb.t (zBN s k ht)<|Dr.k<|Br.mk (λc=>?_) (λc=>?_)
  ·refine Ob.o ?_;intro z hz;rw[get z hz];refine Ob.mk hi.2 ?_;intro n hn;rw[zhb hi hn];refine zb.t (zha _ _ p (zng s k))<|⟨λq=>zd λz=>q (z.2.2 k hm c),λq=>?_⟩;exact Ar.o<|⟨j+1,⟨oM,zco hk j2 λ_=>Xa.1 q⟩,zf [0,1],by dsimp only;omega⟩
  exact Ar.o<|⟨j+1,⟨oM,zco hk j2 λq=>absurd q c⟩,zf [0,1],by dsimp only;omega⟩
 have g:¬(j:Int)<(je s i).length:=g;rw[Xi oM]at j2;exact zI ⟨hs,Xa.1 h2,j2⟩
def onB(s:Sc)(p:Pt):Nat->Int->Bool
 |0,_=>false
 |f+1,i=>decide (uR s i p)&&(if (zZ s i).k=2 then decide (uu (zal s i) (zZ s i).rule p)||decide (uu (zaH s i) 1 p)
   else if (zZ s i).k=3 then decide (uu (zeV s i) 1 p) else(zaC s i.toNat).any (onB s p f))
def zuC(s:Sc)(p:Pt)(f:Nat)(i:Int):onB s p (f+1) i=(decide (uR s i p)&&(if (zZ s i).k=2 then decide (uu (zal s i) (zZ s i).rule p)||decide (uu (zaH s i) 1 p)
  else if (zZ s i).k=3 then decide (uu (zeV s i) 1 p) else(zaC s i.toNat).any (onB s p f))):=rfl
variable{p:Pt}{f:Nat}
def zuD{s:Sc}(h:¬uR s i p):¬onB s p (f+1) i=true:=by
 rw[zuC,decide_eq_false h];simp
def znh{s:Sc}(h:uR s i p)(k:(zZ s i).k=2):onB s p (f+1) i=true↔uu (zal s i) (zZ s i).rule p∨uu (zaH s i) 1 p:=by
 rw[zuC,decide_eq_true h,Xe k];simp
def zCL{s:Sc}(h:uR s i p)(k2:¬(zZ s i).k=2)(k:(zZ s i).k=3):onB s p (f+1) i=true↔uu (zeV s i) 1 p:=by
 rw[zuC,decide_eq_true h,Xc k2,Xe k];simp
def zCM{s:Sc}{p:Pt}{f:Nat}{i:Int}(h:uR s i p)(k2:¬(zZ s i).k=2)(k:¬(zZ s i).k=3):onB s p (f+1) i=true↔∃j∈zaC s i.toNat,onB s p f j=true:=by
 rw[zuC,decide_eq_true h,Xc k2,Xc k];simp
def zlt(s:Sc)(i:Int):kL (zal s i):=zcZ s i _ (by simp[zaA])
def zlu(s:Sc)(i:Int):kL (zaH s i):=zcZ s i _ (by simp[zaA])
def zni(s:Sc)(i:Int):kL (zeV s i):=zcZ s i _ (by simp[zaA])
def g_on1(s:Sc)(p:Pt)(ht:jE s)(f:Nat)(i:Int)(ih:inS s i->∀k∈zaC s i.toNat,CG0 6 [.agg (scE s),i64 k,.agg (ptE p)] [] (pr (onB s p f k=true)) []):
  CG0 6 [.agg (scE s),i64 i,.agg (ptE p)] [] (pr (onB s p (f+1) i=true)) []:=by
 refine zc Tryz.func6 ?_;refine zb.t (zB3 s i p ht)<|⟨λh=>zd (zuD h),λh=>?_⟩;have h:uR s i p:=Xa.1 h;have hi:=h.1;refine Ob.mk hi.2 ?_;intro n hn;rw[zhb hi hn];refine⟨λh2=>?_,λh2=>?_⟩
 ·refine Dr.k<|zb.t (zuo s i ht)<|zb.t (zg9 _ _ p (zlt s i))<|⟨λc=>zI ((znh h h2).2 (.inl c)),λc=>?_⟩;exact zb.t (zus s i ht)<|zb.t (zg9 _ _ p (zlu s i))<|zE ⟨λq=>(znh h h2).2 (.inr q),λq=>((znh h h2).1 q).resolve_left c⟩
 refine⟨λh3=>?_,λh3=>?_⟩
 ·exact Dr.k<|zb.t (zzE s i ht)<|zb.t (zg9 _ _ p (zni s i))<|zE (zCL h h2 h3).symm
 have e:=zCM (f:=f) h h2 h3;obtain⟨i,rfl⟩:∃q:Nat,i=(q:Int):=⟨i.toNat,by have:=hi.2.1;omega⟩;refine zb.t (zEC s i ht.tame hi) ?_;intro hl
 refine⟨Nat,λj=>⟨[(49,i64 (j:Int)),(48,i64 ((zaC s i).length:Int)),(47,.sl zV (zaC s i)),(5,.loc 1 0),(3,.loc 0 0)],[(1,.box 28 (ptE p)),(0,.box 26 (scE s))],2,58,0⟩,
  λj=>j<=(zaC s i).length/\∀k∈(zaC s i).take j,¬onB s p f k=true,λj=>(zaC s i).length-j,0,⟨Xh _,λk hk=>by cases hk⟩,?_,?_⟩
 ·exact zf [0,1]
 rintro j ⟨j1,j2⟩
 refine⟨λg=>?_,λg=>?_⟩
 ·have g:(j:Int)<(zaC s i).length:=g;refine Ob.o ?_;intro k hk;have hk:(zaC s i)[j]?=some k:=hk;have hm:=Xf hk;refine zb.t (ih hi k hm)<|⟨λc=>zI (e.2 ⟨k,hm,c⟩),λc=>?_⟩;exact Ar.o<|⟨j+1,⟨oM,zco hk j2 c⟩,zf [0,1],by dsimp only;omega⟩
 have g:¬(j:Int)<(zaC s i).length:=g;rw[Xi oM]at j2;refine zd λq=>?_
 obtain⟨k,hm,c⟩:=e.1 q;exact j2 k hm c
def k_on1(s:Sc)(p:Pt)(ht:jE s)(f:Nat)(i:Int)(ih:inS s i->∀k∈zaC s i.toNat,CG0 7 [.agg (scE s),i64 k,.agg (ptE p)] [] (pr (onB s p f k=true)) []):
  CG0 7 [.agg (scE s),i64 i,.agg (ptE p)] [] (pr (onB s p (f+1) i=true)) []:=by
 refine zc Tryz.func7 ?_;have bad:¬uR s i p->LE (bl false) (pr (onB s p (f+1) i=true)):=λh=>zd (zuD h)
 refine zb.t (zeb s ht.tame)<|⟨λh=>bad λk=>h k.1.1,λh0=>?_⟩;refine zb.t (z9 p)<|⟨λh=>bad λk=>h k.2.1,λh1=>?_⟩;refine⟨λh=>bad λk=>by have:=k.1.2.1;have h:i<0:=h;omega,λh2=>?_⟩;intro hl0;refine⟨λh=>bad λk=>by have:=k.1.2.2;have h:(s.ns.length:Int)<=i:=h;omega,λh3=>?_⟩;refine zb.t (zB5 s i p ht)<|Br.mk bad (λh=>?_);have h:uR s i p:=Xa.1 h;have hi:=h.1;refine Ob.mk hi.2 ?_;intro n hn;rw[zhb hi hn]
 refine⟨λh2=>?_,λh2=>?_⟩
 ·refine Dr.k<|zb.t (zB1 s i ht)<|zb.t (zha _ _ p (zlt s i))<|⟨λc=>zI ((znh h h2).2 (.inl c)),λc=>?_⟩;exact zb.t (zB2 s i ht)<|zb.t (zha _ _ p (zlu s i))<|zE ⟨λq=>(znh h h2).2 (.inr q),λq=>((znh h h2).1 q).resolve_left c⟩
 refine⟨λh3=>?_,λh3=>?_⟩
 ·exact Dr.k<|zb.t (zED s i ht)<|zb.t (zha _ _ p (zni s i))<|zE (zCL h h2 h3).symm
 have e:=zCM (f:=f) h h2 h3;obtain⟨i,rfl⟩:∃q:Nat,i=(q:Int):=⟨i.toNat,by have:=hi.2.1;omega⟩;refine zb.t (zB0 s i ht.tame hi) ?_
 refine⟨Nat,λj=>⟨[(9,i64 (j:Int)),(8,.sl zV (zaC s i)),(5,.loc 1 0),(3,.loc 0 0)],[(1,.box 28 (ptE p)),(0,.box 26 (scE s))],2,82,0⟩,
  λj=>j<=(zaC s i).length/\∀k∈(zaC s i).take j,¬onB s p f k=true,λj=>(zaC s i).length-j,0,⟨Xh _,λk hk=>by cases hk⟩,?_,?_⟩
 ·exact zf [0,1]
 rintro j ⟨j1,j2⟩
 intro hl;refine⟨λg=>?_,λg=>?_⟩
 ·have g:(j:Int)<(zaC s i).length:=g;refine Dr.k<|Ob.o ?_;intro k hk;have hk:(zaC s i)[j]?=some k:=hk;have hm:=Xf hk;refine zb.t (ih hi k hm)<|⟨λc=>zI (e.2 ⟨k,hm,c⟩),λc=>?_⟩;exact Ar.o<|⟨j+1,⟨oM,zco hk j2 c⟩,zf [0,1],by dsimp only;omega⟩
 have g:¬(j:Int)<(zaC s i).length:=g;rw[Xi oM]at j2;refine zd λq=>?_
 obtain⟨k,hm,c⟩:=e.1 q;exact j2 k hm c
def zoX{s:Sc}(hi:inS s i){k:Int}(hk:k∈zaC s i.toNat)(hf:8<=f+1+dN s.ns i.toNat):1<=f/\8<=f+dN s.ns k.toNat:=by
 obtain⟨m,rfl,hm,hd⟩:=zEB hk;have:=yE hi.1 _ (Xf (Xb hm));rw[←zlq (Xb hm)]at this;rw[show((m:Int)).toNat=m from rfl];omega
def zCN(s:Sc)(p:Pt)(ht:jE s):∀(f:Nat) (i:Int),1<=f->(inS s i->8<=f+dN s.ns i.toNat)->CG0 6 [.agg (scE s),i64 i,.agg (ptE p)] [] (pr (onB s p f i=true)) []
 |0,_,h,_=>absurd h dC
 |f+1,i,_,h=>g_on1 s p ht f i λhi k hk=>zCN s p ht f k (zoX hi hk (by have:=h hi;omega)).1 λ_=>(zoX hi hk (by have:=h hi;omega)).2
def zCO(s:Sc)(p:Pt)(ht:jE s):∀(f:Nat) (i:Int),1<=f->(inS s i->8<=f+dN s.ns i.toNat)->CG0 7 [.agg (scE s),i64 i,.agg (ptE p)] [] (pr (onB s p f i=true)) []
 |0,_,h,_=>absurd h dC
 |f+1,i,_,h=>k_on1 s p ht f i λhi k hk=>zCO s p ht f k (zoX hi hk (by have:=h hi;omega)).1 λ_=>(zoX hi hk (by have:=h hi;omega)).2
def onS(s:Sc)(p:Pt)(i:Int):Bool:=onB s p 8 i
def zCP{s:Sc}(h:inS s i):8<=((8:Nat):Int)+dN s.ns i.toNat:=by
 obtain⟨n,hn⟩:=uN h;rw[zlq hn];have:=yE h.1 n (Xf hn);omega
def zzT(s:Sc)(p:Pt)(i:Int)(ht:jE s):CG0 6 [.agg (scE s),i64 i,.agg (ptE p)] [] (pr (onS s p i=true)) []:=zCN s p ht 8 i dC zCP
def k_on(s:Sc)(p:Pt)(i:Int)(ht:jE s):CG0 7 [.agg (scE s),i64 i,.agg (ptE p)] [] (pr (onS s p i=true)) []:=zCO s p ht 8 i dC zCP
def zru(f:SV->SV):∀(L:List (Nat×SV)) (t:Nat),kK (L.map λp=>(p.1,f p.2)) t=(kK L t).map f
 |[],_=>rfl
 |(k,s)::r,t=>by
  rw[QO,kq,kq]
  by_cases h:k=t
  ·rw[Xe h,Xe h];rfl
  rw[Xc h,Xc h];exact zru f r t
def zzV(n:Nat){σ:St}:Sub σ ⟨σ.L.map λp=>(p.1,frz (zS σ.M) n p.2),[],σ.nk,σ.nt,σ.n0⟩:=λE ρ a w hr=>by
 have hs:=hr.stp;refine⟨ρ,hr.size,hr.defers,λt s hl=>?_,qr hr.mem.kp λ_ _ h=>hr.mem.glc h,hr.fresh,⟨hs.os,hs.tape,hs.output,hs.size,hs.block,λb hb=>absurd hb zP,hs.rho⟩,hr.keep,hr.low⟩;have hl:kK (σ.L.map λp=>(p.1,frz (zS σ.M) n p.2)) t=some s:=hl;rw[zru (frz (zS σ.M) n)]at hl
 cases hk:kK σ.L t with
 |none=>rw[hk]at hl;cases hl
 |some u=>
  rw[hk]at hl
  cases hl
  obtain⟨h1,h2⟩:=hr.regs t u hk;exact⟨h1,.d _ _ ((zmB (λk m h=>zw h) hr.mem n h2).less λb hb=>hb.resolve_right zP)⟩
def ndK(s:Sc)(i:Nat):Int:=match s.ns[i]? with
 |some n=>n.k
 |none=>0
def ndI(s:Sc)(i:Int):Int:=match s.ns[i.toNat]? with
 |some n=>n.id
 |none=>0
def zzW{s:Sc}{i:Nat}{n:Nd}(h:s.ns[i]?=some n):ndK s i=n.k:=by unfold ndK;rw[h]
def zoY{s:Sc}{n:Nd}(h:s.ns[i.toNat]?=some n):ndI s i=n.id:=by unfold ndI;rw[h]
def atL(s:Sc)(p:Pt):Nat->List Int
 |0=>[]
 |n+1=>if ndK s n≠1/\onS s p n=true then(n:Int)::atL s p n else atL s p n
def atA(s:Sc)(p:Pt):List Int:=atL s p s.ns.length
def zbT(s:Sc)(p:Pt):List Int:=(atA s p).map (ndI s)
def zlv{s:Sc}{n:Nat}(h:ndK s n≠1/\onS s p n=true):atL s p (n+1)=(n:Int)::atL s p n:=Xe h
def zCQ{s:Sc}{n:Nat}(h:¬(ndK s n≠1/\onS s p n=true)):atL s p (n+1)=atL s p n:=Xc h
def zzX{s:Sc}{p:Pt}:∀{n:Nat} {i:Int},i∈atL s p n->0<=i/\i<n
 |n+1,i,h=>by
  unfold atL at h
  split at h
  ·rcases XZ.1 h with rfl|h
   ·omega
   have:=zzX h;omega
  have:=zzX h;omega
def zoZ(s:Sc)(p:Pt):∀(m n:Nat),(atL s p (n+m)).drop ((atL s p (n+m)).length-(atL s p n).length)=atL s p n/\(atL s p n).length<=(atL s p (n+m)).length
 |0,n=>by rw[XQ,QY];exact⟨rfl,Xk _⟩
 |m+1,n=>by
  obtain⟨h1,h2⟩:=zoZ s p m n;rw[←KB]
  by_cases c:ndK s (n+m)≠1/\onS s p (n+m:Nat)=true
  ·rw[zlv c,Xn,show(atL s p (n+m)).length+1-(atL s p n).length=(atL s p (n+m)).length-(atL s p n).length+1 by omega,List.drop_succ_cons];exact⟨h1,oM⟩
  rw[zCQ c];exact⟨h1,h2⟩
def atT(s:Sc)(p:Pt)(n:Nat):Nat:=(atA s p).length-(atL s p n).length
def zB7{s:Sc}{n:Nat}(hn:n+1<=s.ns.length)(h:ndK s n≠1/\onS s p n=true):(atA s p)[atT s p (n+1)]?=some (n:Int)/\atT s p (n+1)+1=atT s p n:=by
 obtain⟨h1,h2⟩:=zoZ s p (s.ns.length-(n+1)) (n+1);rw[show n+1+(s.ns.length-(n+1))=s.ns.length by omega]at h1 h2;have e:=Xg (λl=>l[0]?) h1;rw[KA,XQ,zlv h]at e;rw[zlv h]at h2;refine⟨?_,?_⟩
 ·unfold atT;rw[zlv h];exact e
 unfold atT atA;rw[zlv h];rw[Xn]at h2 ⊢;omega
def zzY{s:Sc}{n:Nat}(h:¬(ndK s n≠1/\onS s p n=true)):atT s p (n+1)=atT s p n:=by unfold atT;rw[zCQ h]
def znk(s:Sc)(p:Pt):CG0 41 [.agg (scE s),.agg (ptE p)] [] (.dfn 79 [.dptr (scE s),.dptr (ptE p)]) []:=by
 exact u0 1 tok mix Tryz.func41 rfl rfl rfl<|.refl
def znl(s:Sc)(p:Pt):CG0 40 [.agg (scE s),.agg (ptE p)] [] (.dfn 78 [.dptr (scE s),.dptr (ptE p)]) []:=by
 exact u0 1 tok mix Tryz.func40 rfl rfl rfl<|.refl
def zCR(s:Sc)(p:Pt)(ht:jE s):zfc Tryz.prog 79 [.dptr (scE s),.dptr (ptE p)] zV (atA s p):=by
 refine zi2 (caps:=[.dptr (scE s),.dptr (ptE p)]) (enc:=zV) (xs:=atA s p) tok mix Tryz.func79 rfl rfl rfl rfl (λl=>?_);intro hl0;refine Ar.o<|⟨Nat,λj=>⟨[(4,i64 ((j:Int)-1)),(2,.dptr (ptE p)),(1,.dptr (scE s)),(0,.val (.func (.yield l) #[] #[]))],[],0,32,0⟩,λj=>atT s p j,λj=>j<=s.ns.length,λj=>j,s.ns.length,Xk _,?_,(QY _).symm,rfl,?_⟩
 ·exact zC []
 rintro j hj
 have hj:j<=s.ns.length:=hj;refine⟨λg=>?_,λg=>?_⟩
 ·have g:0<=(j:Int)-1:=g;obtain⟨k,rfl⟩:∃k,j=k+1:=⟨j-1,oM⟩;have ek:((k+1:Nat):Int)-1=(k:Int):=oM;have en1:some (i64 (((k+1:Nat):Int)-1-1))=some (i64 ((k:Int)-1)):=by rw[ek]
  refine Ob.o ?_;intro n hn;have en:=zzW (show s.ns[k]?=some n by rw[←hn,ek];rfl);refine⟨λc=>?_,λc=>?_⟩
  ·have c:¬n.k=1:=c;refine zb.t (zzT s p (((k+1:Nat):Int)-1) ht)<|⟨λd=>?_,λd=>?_⟩
   ·have hc:ndK s k≠1/\onS s p k=true:=⟨by rw[en];exact c,by rw[ek]at d;exact d⟩;obtain⟨a1,a2⟩:=zB7 hj hc;refine⟨rfl,(k:Int),a1,rfl,.cons (ze ek) .nil,(λk m h=>by cases h),?_⟩;refine Br.mk ?_ (.inl rfl);exact Ar.o<|⟨k,oM,jh [] ⟨en1,rfl,rfl,rfl,trivial⟩ trivial,a2,rfl,by dsimp only;omega⟩
   have hc:¬(ndK s k≠1/\onS s p k=true):=λh=>d (by rw[ek];exact h.2)
   exact Ar.o<|⟨k,oM,jh [] ⟨en1,rfl,rfl,rfl,trivial⟩ trivial,zzY hc,rfl,by dsimp only;omega⟩
  have hc:¬(ndK s k≠1/\onS s p k=true):=λh=>c (by rw[←en];exact h.1)
  exact Ar.o<|⟨k,oM,jh [] ⟨en1,rfl,rfl,rfl,trivial⟩ trivial,zzY hc,rfl,by dsimp only;omega⟩
 obtain rfl:j=0:=by have g:¬0<=(j:Int)-1:=g;omega
 exact .inr (by unfold atT;rfl)
def zzZ(s:Sc)(p:Pt)(ht:jE s):zfc Tryz.prog 78 [.dptr (scE s),.dptr (ptE p)] zV (zbT s p):=by
 refine zzU (caps:=[.dptr (scE s),.dptr (ptE p)]) (enc:=zV) (xs:=zbT s p) tok mix Tryz.func78 rfl rfl rfl rfl (λl=>?_);refine zb.t (znk s p)<|⟨rfl,rfl,Int,zV,atA s p,[(3,.dptr [.val (.func (.yield l) #[] #[])]),(1,.dptr (scE s))],1,zCR s p ht,λ_=>rfl,⟨rfl,rfl,rfl⟩,(Xx _).symm,(zzV 1).trans (zC []),?_⟩;intro j y hy;have hm:=zzX (Xf hy);refine .split 7 (Ob.mk (by decide +kernel) ?_);refine Ob.mk hm ?_;intro n hn
 refine⟨rfl,ndI s y,by unfold zbT;rw[XD,hy];rfl,rfl,.cons (ze (zoY hn).symm) .nil,(λk m h=>by cases h),?_⟩;exact Br.mk ⟨rfl,rfl⟩ rfl
abbrev zz0(T:TypeId):Mem:=.box T [.sl ptE (List.replicate 9223372036854775808 zp)]
def zje{σ:St}{k:Nat}{T:TypeId}(h:(k,zz0 T)∈σ.M):¬zys σ:=λ⟨E,ρ,a,w,hr⟩=>by
 obtain⟨b,vs,_,_,hl,_,hg⟩:=hr.mem.rel k _ h
 cases vs with
 |nil=>cases hl
 |cons v vs=>exact zt7 (hg 0 _ v rfl rfl)
def firE(l:List Int):SV:=.tup [i64 (l.headD 0),pr (0<l.length)]
def firS(j:Nat):List (Nat×Mem):=match j with
 |0=>[(0,.box 3 [i64 0]),(1,.box 4 [bl false])]
 |_+1=>[(0,.box 3 [i64 0]),(1,.box 4 [bl false]),(2,zz0 3)]
def zCS(s:Sc)(p:Pt)(ht:jE s):CG0 14 [.agg (scE s),.agg (ptE p)] [] (firE (zbT s p)) []:=by
 refine vf 1 tok mix Tryz.func14 rfl rfl rfl<|zb.t (znl s p) ?_
 refine⟨Int,zV,zbT s p,2,[(4,.loc 0 0),(5,.loc 1 0)],firS,λ_=>3,zzZ s p ht,λ_=>rfl,⟨rfl,rfl,rfl,rfl⟩,
  zf [2,3],⟨Xh _,rfl⟩,λj=>?_,?_,?_⟩
 ·intro k m hm
  cases j <;> (unfold firS at hm;simp only[XZ,XW,or_false,KD]at hm)
  ·obtain⟨_,rfl⟩|⟨_,rfl⟩:=hm <;> rfl
  obtain⟨_,rfl⟩|⟨_,rfl⟩|⟨_,rfl⟩:=hm <;> rfl
 ·intro j y hy hL
  cases j with
  |succ j=>exact absurd hL (zje (k:=2) (T:=3) (.tail _ (.tail _ (.head _))))
  |zero=>
   cases h:zbT s p with
   |nil=>rw[h]at hy;cases hy
   |cons a r=>
    rw[h]at hy;obtain rfl:a=y:=Xm hy;refine⟨[(0,.box 3 [i64 a]),(1,.box 4 [bl true])],3,zf [0,1],λk m hm=>?_,zM .refl (zI (Nat.succ_pos _))⟩;simp only[XZ,XW,or_false,KD]at hm
    obtain⟨_,rfl⟩|⟨_,rfl⟩:=hm <;> rfl
 intro hL
 cases h:zbT s p with
 |nil=>exact zM .refl (zd dC)
 |cons a r=>rw[h]at hL;exact absurd hL (zje (k:=2) (T:=3) (.tail _ (.tail _ (.head _))))
def zo0(s:Sc)(p:Pt):List Int:=match atA s p with
 |[]=>[]
 |i::_=>(je s i).map (ndI s)
def wayS(s:Sc)(j:Nat):List (Nat×Mem):=match j with
 |0=>[(0,.box 26 (scE s)),(1,.box 41 [.own 2]),(2,.arr 3 zV 1 [])]
 |_+1=>[(0,.box 26 (scE s)),(1,.box 41 [.own 2]),(2,.arr 3 zV 1 []),(3,zz0 3)]
def zwk(s:Sc)(i:Int):(je s i).length<=64:=by
 unfold je;split
 ·rename_i h;obtain⟨n,hn⟩:=uN h;obtain⟨i,rfl⟩:∃q:Nat,i=(q:Int):=⟨i.toNat,by have:=h.2.1;omega⟩;have hn:s.ns[i]?=some n:=hn;have hd:=yE h.1 n (Xf hn);have:=zeQ (zak h.1) (d:=n.d.toNat) (i:=i) (by rw[yQ hn];congr 1;omega);rw[Xx,KV,this];omega
 exact Xh _
def zCT(s:Sc)(p:Pt)(ht:jE s):CG0 16 [.agg (scE s),.agg (ptE p)] [] (.sl zV (zo0 s p)) []:=by
 refine vf 1 tok mix Tryz.func16 rfl rfl rfl<|zb.t (znk s p) ?_
 refine⟨Int,zV,atA s p,2,[(2,.loc 0 0),(5,.loc 1 0)],wayS s,λ_=>4,zCR s p ht,λ_=>rfl,⟨rfl,rfl,rfl,rfl⟩,
  zC [(0,some 0),(1,some 2),(2,none)],⟨Xh _,rfl⟩,λj=>?_,?_,?_⟩
 ·intro k m hm
  cases j <;> (unfold wayS at hm;simp only[XZ,XW,or_false,KD]at hm)
  ·obtain⟨_,rfl⟩|⟨_,rfl⟩|⟨_,rfl⟩:=hm <;> first|rfl|trivial
  obtain⟨_,rfl⟩|⟨_,rfl⟩|⟨_,rfl⟩|⟨_,rfl⟩:=hm <;> first|rfl|trivial
 ·intro j y hy hL
  cases j with
  |succ j=>exact absurd hL (zje (k:=3) (T:=3) (.tail _ (.tail _ (.tail _ (.head _)))))
  |zero=>
  have hs:=zwk s y;refine zb.t (zCK s y ht.tame) ?_;intro hl
  have e:zo0 s p=(je s y).map (ndI s):=by
   unfold zo0
   cases hL:atA s p with
   |nil=>rw[hL]at hy;cases hy
   |cons a r=>rw[hL]at hy;rw[show y=a from(Xm hy).symm]
  refine⟨Nat,λq=>⟨[(17,i64 (q:Int)),(16,i64 ((je s y).length:Int)),(15,.sl zV (je s y)),(5,.loc 1 0),(2,.loc 0 0)],[(0,.box 26 (scE s)),(1,.box 41 [.own 2]),(2,.arr 3 zV 1 (((je s y).take q).map (ndI s)))],4,32,2⟩,
   λq=>q<=(je s y).length,λq=>(je s y).length-q,0,Xh _,?_,?_⟩
  ·exact zf [0,1,2]
  rintro q hq
  have hq:q<=(je s y).length:=hq;refine⟨λg=>?_,λg=>?_⟩
  ·have g:(q:Int)<(je s y).length:=g;refine Ob.o ?_;intro k hk;have hk:(je s y)[q]?=some k:=hk;obtain⟨_,hi⟩:=zoW (Xf hk);have hlen:(((je s y).take q).map (ndI s)).length<=64:=by rw[Xx,Xo];omega
   refine Dr.d<|Ob.mk hi.2 ?_;intro n hn;refine⟨Int,zV,[n.id],rfl,Ob.o5 ?_⟩;refine⟨[n.id],rfl,Ob.mk ⟨by show(((((je s y).take q).map (ndI s)).length:Int)+1)*8<=_;omega,by rw[Kc];omega,dC,λx hx=>by rw[Xv.1 hx];rfl⟩ ?_⟩;exact Ob.mk (by kernel_rfl)<|Ar.o<|⟨q+1,by show q+1<=(je s y).length;omega,zu [0,1,5] ⟨rfl,rfl,Xg (λq=>some (Mem.arr 3 zV 1 q)) (by rw[Xl,hk,XB,←zoY hn];rfl),trivial⟩,by dsimp only;omega⟩
  obtain rfl:q=(je s y).length:=by have g:¬(q:Int)<(je s y).length:=g;omega
  refine⟨[(0,.box 26 (scE s)),(1,.box 41 [.own 2]),(2,.arr 3 zV 1 (zo0 s p))],4,zu [0,1,2] ⟨rfl,rfl,Xg (λq=>some (Mem.arr 3 zV 1 q)) (by rw[e,X5]),trivial⟩,λk m hm=>?_,.refl⟩;simp only[XZ,XW,or_false,KD]at hm
  obtain⟨_,rfl⟩|⟨_,rfl⟩|⟨_,rfl⟩:=hm <;> first|rfl|trivial
 intro hL;unfold zo0
 cases h:atA s p with
 |nil=>exact .refl
 |cons a r=>rw[h]at hL;exact absurd hL (zje (k:=3) (T:=3) (.tail _ (.tail _ (.tail _ (.head _)))))
def zwl(s:Sc)(p:Pt):(zbT s p).length<=s.ns.length:=by
 unfold zbT atA;rw[Xx];have:=(zoZ s p s.ns.length 0).1
 have h:∀n,(atL s p n).length<=n:=λn=>by
  induction n with
  |zero=>exact Xk _
  |succ n ih=>unfold atL;split <;> (try rw[Xn]) <;> omega
 exact h _
def l_got(s:Sc)(p:Pt)(ht:jE s)(hl:s.ns.length<=1000):CG0 15 [.agg (scE s),.agg (ptE p)] [] (.sl zV (zbT s p)) []:=by
 refine vf 1 tok mix Tryz.func15 rfl rfl rfl ?_;have hs:=zwl s p;refine zb.t (znl s p) ?_
 refine⟨Int,zV,zbT s p,1,[(5,.loc 0 0)],λj=>[(0,.box 41 [.own 1]),(1,.arr 3 zV 1 ((zbT s p).take j))],λ_=>2,zzZ s p ht,λ_=>rfl,⟨rfl,rfl,rfl,rfl⟩,
  zC [(0,some 2),(1,none)],⟨Xh _,rfl⟩,λj=>?_,?_,?_⟩
 ·intro k m hm;simp only[XZ,XW,or_false,KD]at hm
  obtain⟨_,rfl⟩|⟨_,rfl⟩:=hm <;> first|rfl|trivial
 ·intro j y hy _;have hlt:((zbT s p).take j).length<=1000:=by rw[Xo];omega
  refine⟨Int,zV,[y],rfl,Ob.o5 ?_⟩;refine⟨[y],rfl,Ob.mk ⟨by show((((zbT s p).take j).length:Int)+1)*8<=_;omega,by rw[Kc];omega,dC,λx hx=>by rw[Xv.1 hx];rfl⟩ ?_⟩;exact zu [0,3] ⟨rfl,Xg (λq=>some (Mem.arr 3 zV 1 q)) (by rw[Xl,hy];rfl),trivial⟩
 exact λ_=>z0 X5
def zB8{a b:List Int}{i:Nat}{y:Int}(hx:a[i]?=some x)(hy:b[i]?=some y)(h:a.take i=b.take i):a.take (i+1)=b.take (i+1)↔x=y:=by
 rw[Xl,Xl,hx,hy,h];simp
def zo1(a b:List Int):CG0 11 [.sl zV a,.sl zV b] [] (pr (a=b)) []:=by
 refine zc Tryz.func11 ?_;intro l1;intro l2;refine⟨λh=>zd λk=>h (by rw[k]),λh=>?_⟩;have h:¬¬(a.length:Int)=b.length:=h;refine⟨Nat,λi=>⟨[(5,i64 (i:Int)),(1,.sl zV b),(0,.sl zV a)],[],0,26,0⟩,λi=>i<=a.length/\a.take i=b.take i,λi=>a.length-i,0,⟨Xh _,rfl⟩,?_,?_⟩
 ·exact zC []
 rintro i ⟨hi,he⟩
 intro l3;refine⟨λg=>?_,λg=>?_⟩
 ·have g:(i:Int)<a.length:=g;refine Dr.k<|Ob.o ?_;intro x hx;refine Ob.o ?_;intro y hy;have e:=zB8 hx hy he;refine⟨λc=>zd λk=>c (e.1 (by rw[k])),λc=>?_⟩;exact Ar.o<|⟨i+1,⟨oM,e.2 (Xa.1 c)⟩,zC [],by dsimp only;omega⟩
 have g:¬(i:Int)<a.length:=g;rw[Xi oM,Xi oM]at he;exact zI he
def cN(id k d op mode:Int)(pa:SV)(rule:Int)(f:SV):List SV:=
 i64 id::i64 k::i64 d::(afE idA++([.val (.slice none 0 0),i64 0,u8 op,i64 mode,bl false,bl false,pa,i64 rule,f]++zzG))
def nN(id k d op mode:Int)(p:List Sg)(rule:Int)(f:List Pnt):Nd:={ zNd with id:=id,k:=k,d:=d,t:=idA,op:=op,mode:=mode,path:=p,rule:=rule,fill:=f }
variable{id:Int}{mode:Int}{rule:Int}{pa:SV}
def zz1{k d op:Int}{f:SV}{p:List Sg}{fl:List Pnt}(hp:LE pa (.sl sgE p))(hf:LE f (.sl yD fl)):LEs (cN id k d op mode pa rule f) (ndE (nN id k d op mode p rule fl)):=
 .C (.C (.C (LEs.append .refl (.cons zD (.C (.C (.C (.cons (zd λh=>absurd (show false=true from h) dC) (.cons (zd λh=>absurd (show false=true from h) dC) (.cons hp (.C (.cons hf zBQ))))))))))))
def zCU{k d op:Int}(f g:SV)(j:Nat)(s':SV)(h:(cN id k d op mode pa rule g)[j]?=some s'):∃s,(cN id k d op mode pa rule f)[j]?=some s/\(s'=s∨(s=f/\s'=g)):=by
 have e:cN id k d op mode pa rule g=(cN id k d op mode pa rule f).set 35 g:=rfl;have hl:(cN id k d op mode pa rule f).length=47:=rfl;rw[e,Kz]at h
 by_cases c:35=j
 ·subst c;rw[Xe rfl,Xe (by rw[hl];decide)]at h;exact⟨f,rfl,.inr ⟨rfl,(Xm h).symm⟩⟩
 rw[Xc c]at h;exact⟨s',h,.inl rfl⟩
abbrev box1:List Sg:=zaF 0 0 1 1
def pgH:Sc:=⟨4,4,⟨0,0,0,0⟩,[nN 7 2 0 0 0 box1 1 [zaG 1],nN 3 1 0 9 1 [] 0 [],nN 5 2 1 0 0 box1 2 [zaG 1]]⟩
def znm(f:SV):List (List SV):=[cN 7 2 0 0 0 (.sl sgE box1) 1 f,cN 3 1 0 9 1 (.val (.slice none 0 0)) 0 (.val (.slice none 0 0)),cN 5 2 1 0 0 (.sl sgE box1) 2 f]
def znn(f:SV):∀x∈znm f,x.length=47:=λx hx=>by
 simp only[znm,XZ,XW,or_false]at hx
 rcases hx with rfl|rfl|rfl <;> rfl
def zB9:CG0 9 [] [] (.agg (scO pgH 0)) [(0,nArr pgH.ns)]:=by
 refine zeZ tok mix Tryz.func9 rfl rfl rfl<|zb.t (ziq 0 0 1 1)<|⟨Unit,uE,[()],rfl,Ob.o0 ?_⟩;refine zb.t zaN<|zb.t zaN<|zb.t zaN<|⟨znm (.own 1),rfl,Ob.mk ⟨rfl,dC,dC,dC,znn _⟩ ?_⟩;have pf:LE (.sl uE [()]) (.sl yD [zaG 1]):=zyU (e:=uE) (g:=yD) (λ_=>zaG 1) (xs:=[()]) λ_ _=>LEs.d zEs rfl
 refine⟨_,((zcD (sz0:=47) (T0:=48) 1 2 (enc:=uE) (ys:=[()]) (xs:=znm (.own 1)) rfl rfl (xs':=znm (.sl uE [()])) rfl (znn _) (λi j x' s' hx hs=>?_)).trans
  (zen 2 (xs:=znm (.sl uE [()])) (ys:=pgH.ns.map ndE) rfl (.cons (zz1 .refl pf) (.cons (zz1 zD zD) (.cons (zz1 .refl pf) .nil))))).trans (zgg 2 ndE pgH.ns rfl (λ_ _=>rfl)),some 2,?_,rfl,λ_ _=>rfl⟩
 ·match i,hx with
  |0,hx=>cases hx;obtain⟨s,h1,h2⟩:=zCU (.own 1) _ j s' hs;exact⟨_,s,rfl,h1,h2⟩
  |1,hx=>cases hx;exact⟨_,s',rfl,hs,.inl rfl⟩
  |2,hx=>cases hx;obtain⟨s,h1,h2⟩:=zCU (.own 1) _ j s' hs;exact⟨_,s,rfl,h1,h2⟩
  |i+3,hx=>cases hx
 exact zw0 (.cons (zbb rfl) (.cons (zbb rfl) (.cons (zbb rfl) (.cons (zbb rfl) (.cons (zbb rfl) (.cons (zbb rfl) (.cons (.own 2 rfl) .nil)))))))
def zCa:CG0 9 [] [] (.agg (scE pgH)) []:=zB9.plain rfl
def bxK(s:Sc)(k:Nat):Rc:=if ndK s k≠1 then zlO s k else ye
def bxN(s:Sc)(n:Nat):List Rc:=(List.range s.ns.length).map λk=>if k<n then bxK s k else ye
def arN(s:Sc):Nat->Rc
 |0=>ye
 |n+1=>if ndK s n≠1 then zwj (arN s n) (zlO s n) else arN s n
def enN(b:List Rc)(n:Nat):List Int:=((List.range n).filter λk=>decide (¬(b.getD k ye).mt)).map λk:Nat=>(k:Int)
def zc1(s:Sc)(n:Nat):(bxN s n).length=s.ns.length:=by unfold bxN;rw[Xx,Jm]
def zsX{s:Sc}{n k:Nat}(h:k<s.ns.length):(bxN s n)[k]?=some (if k<n then bxK s k else ye):=by
 unfold bxN;rw[XD,Ql h];rfl
def zCb{s:Sc}{n:Nat}(h:n<s.ns.length)(hk:ndK s n≠1):(bxN s n).set n (zlO s n)=bxN s (n+1):=by
 refine Kq λj=>?_
 by_cases hj:j<s.ns.length
 ·rw[Kz,zsX hj,zsX hj,zc1]
  by_cases c:n=j
  ·subst c;rw[Xe rfl,Xe h,Xe oM];unfold bxK;rw[Xe hk]
  rw[Xc c]
  by_cases q:j<n
  ·rw[Xe q,Xe oM]
  rw[Xc q,Xc oM]
 rw[XG (by rw[XV,zc1];omega),XG (by rw[zc1];omega)]
def zz2{s:Sc}{n:Nat}(hk:¬ndK s n≠1):bxN s (n+1)=bxN s n:=by
 unfold bxN;refine Qm λk _=>?_
 by_cases c:k=n
 ·subst c;rw[Xe oM,Xc oM];unfold bxK;rw[Xc hk]
 by_cases q:k<n
 ·rw[Xe oM,Xe q]
 rw[Xc oM,Xc q]
variable{b:List Rc}
def zEF{n:Nat}(h:¬(b.getD n ye).mt):enN b (n+1)=enN b n++[(n:Int)]:=by
 unfold enN;rw[Kx,KO,XB,Qp,Xe (decide_eq_true h)];rfl
def en_no{n:Nat}(h:(b.getD n ye).mt):enN b (n+1)=enN b n:=by
 unfold enN;rw[Kx,KO,XB,Qp,Xc (by simpa using h)];exact XE _
def zsY(b:List Rc)(n:Nat):(enN b n).length<=n:=by
 unfold enN;rw[Xx];have:=KY (λk=>decide (¬(b.getD k ye).mt)) (List.range n)
 rwa [Jm]at this
def quE(a:Rc)(es:SV):List SV:=rcE a++[es,.val (.slice none 0 0)]
def p_ins(a b:Rc)(es:List Int)(i:Int)(ha:a.area<=1)(hl:es.length<=1000):CG0 38 [.loc 0 0,i64 i,.agg (rcE b),i64 0] [(0,.box 79 (quE a (.own 1))),(1,.arr 3 zV 1 es)] (.tup [])
  [(0,.box 79 (quE a (.own 2))),(2,.arr 3 zV 1 (es++[i]))]:=by
 refine yy tok mix Tryz.func38 rfl rfl rfl<|Br.y<|zb.t (zzd a)<|⟨λk=>by have k:1<a.area:=k;omega,λ_=>?_⟩;refine⟨Int,zV,[i],rfl,Ob.o5 ?_⟩;refine⟨[i],rfl,Ob.mk ⟨by show((es.length:Int)+1)*8<=_;omega,by rw[Kc];omega,dC,λx hx=>by rw[Xv.1 hx];rfl⟩ ?_⟩;exact⟨⟨[],[(0,.box 79 (quE a (.own 2))),(2,.arr 3 zV 1 (es++[i]))],3,83,2⟩,zf [0,1,4],rfl,.refl⟩
def ixE(s:Sc):List SV:=scE s++[.sl rcE (bxN s s.ns.length),.dptr (quE (arN s s.ns.length) (.sl zV (enN (bxN s s.ns.length) s.ns.length)))]
def zz3{s:Sc}:bxN s 0=List.replicate s.ns.length ye:=by
 unfold bxN;rw[List.eq_replicate_iff];refine⟨by rw[Xx,Jm],λb hb=>?_⟩;obtain⟨k,_,rfl⟩:=XP.1 hb;exact Xc (Nat.not_lt_zero _)
def zCc(s:Sc)(hl:ltS s)(hv:jY s)(h1:(arN s s.ns.length).area<=1):CG0 10 [.agg (scE s)] [] (.tup [.dptr (ixE s),i64 0]) []:=by
 have ht:=zoS hl;have h64:=uO hv;have hn:∀n∈s.ns,ltN n:=λn hm=>hl.2 n (by rw[Xi oM];exact hm)
 refine u0 2 tok mix Tryz.func10 rfl rfl rfl<|zb.t (zjb s ht.tame)<|⟨λk=>absurd hv k,λ_=>?_⟩;refine Dr.d<|zb.t (zzK s oM hn) ?_;intro hl0;refine⟨Rc,rcE,ye,rfl,Ob.mk ⟨dC,oM,Qo _,(by show(s.ns.length:Int)*(32:Int)<=_;omega),oM⟩ ?_⟩;refine Ob.mk (by kernel_rfl) ?_;intro hl1
 refine⟨Nat,λi=>⟨[(28,i64 (i:Int)),(27,i64 (s.ns.length:Int)),(26,.sl ndE s.ns),(4,.loc 3 0)],[(3,.box 81 (scE s++[.own 1,.loc 2 0])),(2,.box 79 (quE (arN s i) (.val (.slice none 0 0)))),(1,.arr 62 rcE 4 (bxN s i))],4,92,0⟩,
  λi=>i<=s.ns.length,λi=>s.ns.length-i,0,Xh _,?_,?_⟩
 ·exact zdy [(1,some 1),(2,some 2),(3,some 3)] ⟨rfl,rfl,Xg (λq=>some (Mem.arr 62 rcE 4 q)) zz3.symm,trivial⟩
 rintro i hi
 have hi:i<=s.ns.length:=hi;refine⟨λg=>?_,λg=>?_⟩
 ·have g:(i:Int)<s.ns.length:=g;have gi:i<s.ns.length:=oM;refine Ob.o ?_;intro n hx;have en:=zzW (show s.ns[i]?=some n from hx);have r1:0<=(i:Int)/\(i:Int)<(bxN s i).length:=by rw[zc1];omega
  refine⟨λc=>?_,λc=>?_⟩
  ·have c:ndK s i≠1:=by rw[en];exact c
   have eb:=zCb gi c;have r2:0<=(i:Int)/\(i:Int)<(bxN s (i+1)).length:=by rw[zc1];omega
   have ebx:(bxN s (i+1))[i]?=some (zlO s i):=by
    rw[zsX gi,Xe oM];unfold bxK;rw[Xe c]
   refine Dr.d<|zb.t (zEw s i ht)<|Ob.mk r1<|Ob.mk r1 ?_;intro z hz;refine⟨zlO s i,rfl,?_⟩;rw[show(bxN s i).set (i:Int).toNat (zlO s i)=bxN s (i+1) from eb];refine Ob.mk (by kernel_rfl)<|Dr.d<|Ob.mk r2<|Ob.mk r2 ?_;intro z hz;rw[show z=zlO s i from Xm ((show(bxN s (i+1))[i]?=some z from hz).symm.trans ebx)];refine zb.t (zuu (arN s i) (zlO s i))<|Ob.mk (by kernel_rfl)<|Ar.o ?_;have ea:arN s (i+1)=zwj (arN s i) (zlO s i):=Xe c
   exact⟨i+1,by show i+1<=_;omega,zdy [(1,some 1),(2,some 2),(3,some 3)] ⟨rfl,Xg (λq=>some (Mem.box 79 (quE q (.val (.slice none 0 0))))) ea.symm,rfl,trivial⟩,by dsimp only;omega⟩
  have c:¬ndK s i≠1:=λk=>c (by rw[←en];exact k)
  refine Ar.o ?_;have ea:arN s (i+1)=arN s i:=Xc c;exact⟨i+1,by show i+1<=_;omega,zdy [(1,some 1),(2,some 2),(3,some 3)] ⟨rfl,Xg (λq=>some (Mem.box 79 (quE q (.val (.slice none 0 0))))) ea.symm,Xg (λq=>some (Mem.arr 62 rcE 4 q)) (zz2 c).symm,trivial⟩,by dsimp only;omega⟩
 obtain rfl:i=s.ns.length:=by have g:¬(i:Int)<s.ns.length:=g;omega
 have hbl:=zc1 s s.ns.length;intro hl2
 refine⟨Nat,λi=>⟨[(75,i64 (i:Int)),(74,i64 ((bxN s s.ns.length).length:Int)),(73,.own 1),(4,.loc 3 0)],[(3,.box 81 (scE s++[.own 1,.loc 2 0])),(2,.box 79 (quE (arN s s.ns.length) (.own 4))),(1,.arr 62 rcE 4 (bxN s s.ns.length)),(4,.arr 3 zV 1 (enN (bxN s s.ns.length) i))],5,92,0⟩,
  λi=>i<=(bxN s s.ns.length).length,λi=>(bxN s s.ns.length).length-i,0,Xh _,?_,?_⟩
 ·exact zC [(1,some 1),(2,some 2),(3,some 3),(4,none)]
 rintro i hi
 have hi:i<=(bxN s s.ns.length).length:=hi;have hel:=zsY (bxN s s.ns.length) i;refine⟨λg=>?_,λg=>?_⟩
 ·have g:(i:Int)<(bxN s s.ns.length).length:=g;obtain⟨b,hb⟩:∃b,(bxN s s.ns.length)[i]?=some b:=⟨_,Xb oM⟩;have eg:(bxN s s.ns.length).getD i ye=b:=by rw[Xt,hb];rfl
  refine Ob.o<|Ob.o ?_;intro z hz;rw[show z=b from Xm ((show(bxN s s.ns.length)[i]?=some z from hz).symm.trans hb)];refine zb.t (zeO b)<|⟨λc=>?_,λc=>?_⟩
  ·refine Dr.d<|zb.give [2,4] 1 [.loc 0 0,i64 (i:Int),.agg (rcE b),i64 0] [(0,.box 79 (quE (arN s s.ns.length) (.own 1))),(1,.arr 3 zV 1 (enN (bxN s s.ns.length) i))] _ _ (p_ins (arN s s.ns.length) b (enN (bxN s s.ns.length) i) i h1 oM) LEs.refl rfl rfl rfl ⟨⟨_,rfl,rfl,rfl⟩,⟨_,rfl,rfl,trivial⟩,trivial⟩ rfl ⟨⟨rfl,rfl⟩,⟨rfl,trivial⟩,trivial⟩<|Ob.mk (by kernel_rfl)<|Ar.o ?_
   exact⟨i+1,by show i+1<=_;omega,zdy [(1,some 1),(2,some 2),(3,some 3),(4,some 6)] ⟨rfl,rfl,rfl,Xg (λq=>some (Mem.arr 3 zV 1 q)) (zEF (by rw[eg];exact c)).symm,trivial⟩,by dsimp only;omega⟩
  exact Ar.o<|⟨i+1,by show i+1<=_;omega,zdy [(1,some 1),(2,some 2),(3,some 3),(4,some 4)] ⟨rfl,rfl,rfl,Xg (λq=>some (Mem.arr 3 zV 1 q)) (en_no (by rw[eg];exact Xa.1 c)).symm,trivial⟩,by dsimp only;omega⟩
 have e:i=s.ns.length:=by have g:¬(i:Int)<(bxN s s.ns.length).length:=g;omega
 rw[e];exact .refl
def zCd(x y:Int):CG0 173 [i64 x,i64 y] [] (pr (x<y)) []:=by
 have nan:∀z:Int,CG0 249 [i64 z] [] (pr (¬z=z)) []:=λz=>by
  refine zc Tryz.func249 ?_;exact .refl
 refine zc Tryz.func173 ?_;exact zb.t (nan x)<|⟨λk=>absurd rfl k,λ_=>.refl⟩
def zEG(n:Nat)(h:n<=12):CG0 116 [u64 n] [] (i64 (kA n)) []:=by
 have l64:CG0 177 [u64 n] [] (i64 (kA n)) []:=by
  refine zc Tryz.func177 ?_;refine⟨λk=>by have k:(4294967296:Int)<=n:=k;omega,λ_=>?_⟩;refine⟨λk=>by have k:(65536:Int)<=n:=k;omega,λ_=>?_⟩;refine⟨λk=>by have k:(256:Int)<=n:=k;omega,λ_=>?_⟩;refine Ar.o<|Ob.o10 ?_;intro b hb;have hb':b.toNat=kA n:=zj7 hb (by show n<256;omega) (λh=>len8tab_get n h);have:=bitLen_le8 n oM;have:kA n<=8:=this;(iterate 2 refine Ar.o ?_);exact ze oM
 refine zc Tryz.func116 ?_;exact zb.to _ l64 rfl .refl
def upS(l:List Int):Prop:=∀(i:Nat) x y,l[i]?=some x->l[i+1]?=some y->x<=y
def j8(l:List Int):zfX (.arr 3 zV 1 l):=λ_ _=>rfl
def zEH(l:List Int)(h:upS l)(hl:l.length<=12):CG0 167 [.own 0,i64 0,i64 (l.length:Int)] [(0,.arr 3 zV 1 l)] (.tup []) [(0,.arr 3 zV 1 l)]:=by
 refine uo tok mix Tryz.func167 rfl rfl rfl (j8 _) rfl<|Ar.o<|⟨Nat,λi=>⟨[(6,i64 (i:Int)),(2,i64 (l.length:Int)),(1,i64 0),(0,.own 0)],[(0,.arr 3 zV 1 l)],1,49,1⟩,λi=>1<=i/\i<=l.length+1,λi=>l.length+1-i,1,⟨Xk _,oM⟩,?_,?_⟩
 ·exact zf [0]
 rintro i ⟨i1,i2⟩
 refine⟨λg=>?_,λg=>⟨rfl,.refl⟩⟩;have g:(i:Int)<l.length:=g;refine⟨Unit,λ_=>⟨[(7,i64 (i:Int)),(6,i64 (i:Int)),(2,i64 (l.length:Int)),(1,i64 0),(0,.own 0)],[(0,.arr 3 zV 1 l)],1,49,1⟩,λ_=>True,λ_=>0,(),trivial,?_,?_⟩
 ·exact zf [0]
 rintro _ _
 refine Dr.k<|Br.mk (λ_=>?_) (λk=>by have k:¬(0:Int)<i:=k;omega);refine Ob.o<|Ob.o ?_;intro y hy;have hy:l[i]?=some y:=hy;refine Ar.o<|Ob.o<|Ob.o ?_;intro x hx;have hx:l[i-1]?=some x:=by rw[←hx];congr 1;omega
 have hle:=h (i-1) x y hx (by rw[Nat.sub_add_cancel i1];exact hy);refine zb.t (zCd y x)<|⟨λk=>by have k:y<x:=k;omega,λ_=>?_⟩;exact Ar.o<|⟨i+1,⟨oM,oM⟩,zf [0],by dsimp only;omega⟩
def zEI(l:List Int)(h:upS l)(hl:l.length<=12):CG0 76 [.own 0] [(0,.arr 3 zV 1 l)] (.tup []) [(0,.arr 3 zV 1 l)]:=by
 have pdq:∀m:Int,CG0 115 [.own 0,i64 0,i64 (l.length:Int),i64 m] [(0,.arr 3 zV 1 l)] (.tup []) [(0,.arr 3 zV 1 l)]:=λm=>by
  refine uo tok mix Tryz.func115 rfl rfl rfl (j8 _) rfl<|⟨Unit,λ_=>⟨[(2,i64 (l.length:Int)),(1,i64 0),(0,.own 0)],[(0,.arr 3 zV 1 l)],1,134,1⟩,λ_=>True,λ_=>0,(),trivial,?_,?_⟩
  ·exact zf [0]
  rintro _ _
  refine Ar.o<|Br.mk (λ_=>?_) (λk=>by have k:¬(l.length:Int)-0<=12:=k;omega);exact zb.hand 0 _ _ _ rfl (zEH l h hl) (j8 _) (j8 _) rfl rfl<|⟨rfl,.refl⟩
 refine uo tok mix Tryz.func76 rfl rfl rfl (j8 _) rfl ?_;intro hl0;exact Ar.o<|zb.t (zEG l.length hl)<|zb.hand 0 _ _ _ rfl (pdq _) (j8 _) (j8 _) rfl rfl<|⟨rfl,.refl⟩
def revT(q l:List Int)(i:Nat):Prop:=l.length=q.length/\∀k,k<q.length->l[k]?=if k<i∨q.length<=k+i then q[q.length-1-k]? else q[k]?
def zEJ(q:List Int)(hq:q.length<=1000):CG0 77 [.own 0] [(0,.arr 3 zV 1 q)] (.tup []) [(0,.arr 3 zV 1 q.reverse)]:=by
 refine uo tok mix Tryz.func77 rfl rfl rfl (j8 _) rfl ?_;intro hl0;refine Ar.o<|⟨Nat×List Int,λ⟨i,l⟩=>⟨[(3,i64 ((q.length:Int)-1-i)),(2,i64 (i:Int)),(0,.own 0)],[(0,.arr 3 zV 1 l)],1,28,1⟩,λz=>2*z.1<=q.length/\revT q z.2 z.1,λz=>q.length-z.1,(0,q),⟨Xh _,rfl,λk hk=>?_⟩,?_,?_⟩
 ·dsimp only at hk ⊢;rw[Xc oM]
 ·exact zT [0] ⟨Xg (λn=>some (i64 n)) oM,rfl,rfl,trivial⟩ ⟨rfl,trivial⟩
 rintro⟨i,l⟩ ⟨h1,h2,h3⟩
 have h1:2*i<=q.length:=h1;have h2:l.length=q.length:=h2;refine⟨λg=>?_,λg=>?_⟩
 ·have g:(i:Int)<(q.length:Int)-1-i:=g;have ej:((q.length:Int)-1-i).toNat=q.length-1-i:=oM;refine Dr.k<|Ob.o<|Ob.o ?_;intro x hx;have hx:l[q.length-1-i]?=some x:=by rw[←hx,ej]
  refine Ob.o<|Ob.o ?_;intro y hy;have hy:l[i]?=some y:=hy;refine Ob.o<|Ob.o ?_;intro x' _;refine⟨x,rfl,?_⟩;refine Ob.mk (by rw[XV];omega)<|Ob.mk (by rw[XV];omega) ?_;intro y' _;refine⟨y,rfl,?_⟩;(iterate 2 refine Ar.o ?_)
  refine⟨(i+1,(l.set i x).set (q.length-1-i) y),⟨by dsimp only;omega,by dsimp only;rw[XV,XV];exact h2,λk hk=>?_⟩,
   zT [0] ⟨Xg (λn=>some (i64 n)) oM,rfl,rfl,trivial⟩ ⟨Xg (λr=>some (Mem.arr 3 zV 1 r)) (by rw[ej];rfl),trivial⟩,by dsimp only;omega⟩
  dsimp only;rw[h3 _ oM,Xc oM]at hx hy;rw[Kz,Kz,XV]
  by_cases c1:q.length-1-i=k
  ·rw[Xe c1,Xe oM,Xe oM,←hy];congr 1;omega
  rw[Xc c1]
  by_cases c2:i=k
  ·rw[Xe c2,Xe oM,Xe oM,←hx];congr 1;omega
  rw[Xc c2,h3 k hk]
  by_cases c3:k<i∨q.length<=k+i
  ·rw[Xe c3,Xe oM]
  rw[Xc c3,Xc oM]
 have g:¬(i:Int)<(q.length:Int)-1-i:=g;refine⟨Xg (λr=>some (Mem.arr 3 zV 1 r)) (Kq λk=>?_),.refl⟩
 by_cases hk:k<q.length
 ·rw[h3 k hk,QP hk]
  split
  ·rfl
  congr 1;omega
 rw[XG oM,XG (by rw[KV];omega)]
def fdL(a r:Rc)(es:List Int):List Int:=if (a.meet r).mt then[] else es
def zEK(a r:Rc)(es:List Int)(hl:es.length<=1000):CG0 74 [.dptr (quE a (.sl zV es)),.agg (rcE r)] [] (.sl zV (fdL a r es)) []:=by
 refine zc Tryz.func74 ?_;refine Dr.k<|zb.t (zze a r)<|zb.t (zeO (a.meet r))<|⟨λh=>by rw[show fdL a r es=[] from Xe h];exact zD,λh=>?_⟩;refine zb.t (cl_I es hl)<|⟨Unit,λ_=>⟨[(25,i64 0),(24,i64 0),(5,.sl zV es)],[],1,36,0⟩,λ_=>True,λ_=>0,(),trivial,?_,?_⟩
 ·exact zC []
 rintro _ _
 refine⟨λk=>absurd k dC,λ_=>?_⟩;exact z0 (Xc h).symm
def bxA(s:Sc):List Rc:=bxN s s.ns.length
def enA(s:Sc):List Int:=enN (bxA s) s.ns.length
def zrv(s:Sc)(r:Rc)(i:Int):Prop:=¬(((bxA s).getD i.toNat ye).meet r).mt
instance (s:Sc) (r:Rc) (i:Int):Decidable (zrv s r i):=inferInstanceAs (Decidable (¬_))
def zfU(s:Sc)(r:Rc)(l:List Int):List Int:=l.filter λi=>decide (zrv s r i)
def cdL(s:Sc)(r:Rc):List Int:=(zfU s r (fdL (arN s s.ns.length) r (enA s))).reverse
def zCV{n:Nat}(h:i∈enN b n):0<=i/\i<n:=by
 unfold enN at h;obtain⟨k,hk,rfl⟩:=XP.1 h;have:=Kd.1 (QL.1 hk).1;omega
def en_up(b:List Rc)(n:Nat):(enN b n).Pairwise (·<=·):=by
 unfold enN;rw[JU];exact((List.pairwise_lt_range).sublist List.filter_sublist).imp λh=>oM
def zsZ(a r:Rc)(es:List Int):(fdL a r es).Sublist es:=by
 unfold fdL;split
 ·exact List.nil_sublist _
 exact List.Sublist.refl _
def up_of(h:l.Pairwise (·<=·)):upS l:=λi x y hx hy=>by
 obtain⟨h1,rfl⟩:=Xd.1 hx;obtain⟨h2,rfl⟩:=Xd.1 hy;exact JQ.1 h i (i+1) h1 h2 (XX _)
variable{r:Rc}
def zCe{s:Sc}(hi:l[j]?=some i)(h:zrv s r i):zfU s r (l.take (j+1))=zfU s r (l.take j)++[i]:=by
 unfold zfU;rw[Xl,hi,KO,Qt,Qp,Xe (decide_eq_true h)];rfl
def zEL{s:Sc}(hi:l[j]?=some i)(h:¬zrv s r i):zfU s r (l.take (j+1))=zfU s r (l.take j):=by
 unfold zfU;rw[Xl,hi,KO,Qt,Qp,Xc (by simpa using h)];exact XE _
def zCW{s:Sc}(h:i∈cdL s r):0<=i/\i<s.ns.length:=by
 unfold cdL zfU at h;exact zCV ((zsZ _ _ _).subset (QL.1 (List.mem_reverse.1 h)).1)
def zz4(s:Sc)(r:Rc):(cdL s r).length<=s.ns.length:=by
 unfold cdL zfU;rw[KV];exact XC (KY _ _) (XC (zsZ _ _ _).length_le (zsY _ _))
def zz5(s:Sc)(r:Rc)(h8:s.ns.length<=8):CG0 39 [.dptr (ixE s),.agg (rcE r)] [] (.sl zV (cdL s r)) []:=by
 refine zc Tryz.func39 ?_;have hbl:(bxN s s.ns.length).length=s.ns.length:=zc1 _ _;have hel:=zsY (bxA s) s.ns.length;refine Dr.k<|zb.t (zEK (arN s s.ns.length) r (enA s) (by unfold enA;omega)) ?_;obtain⟨fs,hfs⟩:∃fs,fs=fdL (arN s s.ns.length) r (enA s):=⟨_,rfl⟩;have hsub:fs.Sublist (enA s):=hfs ▸ zsZ _ _ _;have hfl:fs.length<=8:=XC hsub.length_le (by unfold enA;omega);have hin:∀i∈fs,0<=i/\i<s.ns.length:=λi hi=>zCV (hsub.subset hi)
 have hup:∀l:List Int,l.Sublist fs->upS l:=λl hl=>up_of ((en_up _ _).sublist (hl.trans hsub))
 have ecd:cdL s r=(zfU s r fs).reverse:=by rw[hfs];rfl
 rw[←hfs,ecd];clear hsub hfs ecd;intro hl0;refine⟨Nat,λj=>⟨[(24,i64 (j:Int)),(23,i64 (fs.length:Int)),(22,.sl zV fs),(5,.own 1),(3,.loc 0 0),(0,.dptr (ixE s))],[(0,.box 62 (rcE r)),(1,.arr 3 zV 1 (zfU s r (fs.take j)))],2,49,0⟩,λj=>j<=fs.length,λj=>fs.length-j,0,Xh _,?_,?_⟩
 ·exact zC [(0,some 0),(1,none)]
 rintro j hj
 have hj:j<=fs.length:=hj;have hsl:(zfU s r (fs.take j)).Sublist fs:=List.filter_sublist.trans (List.take_sublist _ _);have hll:=hsl.length_le;refine⟨λg=>?_,λg=>?_⟩
 ·have g:(j:Int)<fs.length:=g;refine Ob.o ?_;intro i hi;have hi:fs[j]?=some i:=hi;have hir:=hin i (Xf hi);refine Dr.k<|Ob.mk (by rw[hbl];exact hir) ?_;intro b hb;have eb:(bxA s).getD i.toNat ye=b:=by rw[Xt];unfold bxA;rw[show(bxN s s.ns.length)[i.toNat]?=some b from hb];rfl
  refine zb.t (zze b r)<|zb.t (zeO (b.meet r))<|⟨λc=>?_,λc=>?_⟩
  ·have c:zrv s r i:=by unfold zrv;rw[eb];exact c
   refine⟨Int,zV,[i],rfl,Ob.o5 ?_⟩;refine⟨[i],rfl,Ob.mk ⟨by show(((zfU s r (fs.take j)).length:Int)+1)*8<=_;omega,by rw[Kc];omega,dC,λx hx=>by rw[Xv.1 hx];rfl⟩ ?_⟩;exact Ar.o<|⟨j+1,by show j+1<=fs.length;omega,zu [0,3] ⟨rfl,Xg (λq=>some (Mem.arr 3 zV 1 q)) (zCe hi c).symm,trivial⟩,by dsimp only;omega⟩
  have c:¬zrv s r i:=by unfold zrv;rw[eb];exact c
  exact Ar.o<|⟨j+1,by show j+1<=fs.length;omega,zu [0,1] ⟨rfl,Xg (λq=>some (Mem.arr 3 zV 1 q)) (zEL hi c).symm,trivial⟩,by dsimp only;omega⟩
 have g:¬(j:Int)<fs.length:=g;exact zb.hand 1 _ _ _ rfl (zEI (zfU s r (fs.take j)) (hup _ hsl) oM) (j8 _) (j8 _) rfl rfl<|zb.hand 1 _ _ _ rfl (zEJ (zfU s r (fs.take j)) oM) (j8 _) (j8 _) rfl rfl<|z0 (by rw[Xi oM])
def zrw(s:Sc)(r:Rc)(h8:s.ns.length<=8):CG0 13 [.dptr (ixE s),.agg (rcE r)] [] (.sl zV ((cdL s r).map (ndI s))) []:=by
 refine zc Tryz.func13 ?_;refine zb.t (zz5 s r h8) ?_;have hc:=zz4 s r;intro hl0;refine⟨Nat,λj=>⟨[(12,i64 (j:Int)),(11,i64 ((cdL s r).length:Int)),(10,.sl zV (cdL s r)),(5,.own 1),(0,.dptr (ixE s))],[(1,.arr 3 zV 1 (((cdL s r).take j).map (ndI s)))],2,30,0⟩,λj=>j<=(cdL s r).length,λj=>(cdL s r).length-j,0,Xh _,?_,?_⟩
 ·exact zC [(1,none)]
 rintro j hj
 have hj:j<=(cdL s r).length:=hj;have hll:(((cdL s r).take j).map (ndI s)).length<=8:=by rw[Xx,Xo];omega
 refine⟨λg=>?_,λg=>?_⟩
 ·have g:(j:Int)<(cdL s r).length:=g;refine Ob.o ?_;intro i hi;have hi:(cdL s r)[j]?=some i:=hi;refine Ob.mk (zCW (Xf hi)) ?_;intro n hn;refine⟨Int,zV,[n.id],rfl,Ob.o5 ?_⟩;refine⟨[n.id],rfl,Ob.mk ⟨by show(((((cdL s r).take j).map (ndI s)).length:Int)+1)*8<=_;omega,by rw[Kc];omega,dC,λx hx=>by rw[Xv.1 hx];rfl⟩ ?_⟩;refine Ar.o ?_
  exact⟨j+1,by show j+1<=(cdL s r).length;omega,zdy [(1,some 3)] ⟨Xg (λq=>some (Mem.arr 3 zV 1 q)) (by rw[Xl,hi,XB,←zoY hn];rfl),trivial⟩,by dsimp only;omega⟩
 have g:¬(j:Int)<(cdL s r).length:=g;exact z0 (by rw[Xi oM])
def zz6(p:Pt):Prop:=p.x < -1048576∨1048576<=p.x∨p.y < -1048576∨1048576<=p.y
instance (p:Pt):Decidable (zz6 p):=inferInstanceAs (Decidable (_∨_))
def zee(p:Pt):Rc:=⟨p.x/2^8,p.y/2^8,p.x/2^8+1,p.y/2^8+1⟩
def onN(s:Sc)(p:Pt)(l:List Int):List Int:=(l.filter λi=>onS s p i).map (ndI s)
def atI(s:Sc)(p:Pt):List Int:=if zz6 p then[] else onN s p (cdL s (zee p))
def zEM{s:Sc}(hi:l[j]?=some i)(h:onS s p i=true):onN s p (l.take (j+1))=onN s p (l.take j)++[ndI s i]:=by
 unfold onN;rw[Xl,hi,KO,Qt,Qp,Xe h,XB];rfl
def on_no{s:Sc}(hi:l[j]?=some i)(h:¬onS s p i=true):onN s p (l.take (j+1))=onN s p (l.take j):=by
 unfold onN;rw[Xl,hi,KO,Qt,Qp,Xc h];exact Xg _ (XE _)
def p_at(s:Sc)(p:Pt)(ht:jE s)(h8:s.ns.length<=8):CG0 12 [.dptr (ixE s),.agg (ptE p)] [] (.sl zV (atI s p)) []:=by
 refine zc Tryz.func12 ?_;have far:zz6 p->LE (.val (.slice none 0 0)) (.sl zV (atI s p)):=λh=>by rw[show atI s p=[] from Xe h];exact zD
 refine⟨λh=>far (.inl h),λh1=>?_⟩;refine⟨λh=>far (.inr (.inl h)),λh2=>?_⟩;refine⟨λh=>far (.inr (.inr (.inl h))),λh3=>?_⟩;refine⟨λh=>far (.inr (.inr (.inr h))),λh4=>?_⟩;have hf:¬zz6 p:=λk=>k.elim h1 λk=>k.elim h2 λk=>k.elim h3 h4
 have ea:atI s p=onN s p (cdL s (zee p)):=Xc hf;unfold zz6 at hf;have e8:(2:Int)^8=256:=dC;have hx: -4096<=p.x/2^8/\p.x/2^8<=4096:=by rw[e8];omega
 have hy: -4096<=p.y/2^8/\p.y/2^8<=4096:=by rw[e8];omega
 refine Ob.o1<|Ob.o1<|Ob.o1<|Ar.fit (show-9223372036854775808<=p.x/2^8+1/\p.x/2^8+1<=9223372036854775807 by omega)<|Ob.o1<|Ar.fit (show-9223372036854775808<=p.y/2^8+1/\p.y/2^8+1<=9223372036854775807 by omega) ?_;refine zb.t (zz5 s (zee p) h8) ?_;have hc:=zz4 s (zee p);intro hl0
 refine⟨Nat,λj=>⟨[(46,i64 (j:Int)),(45,i64 ((cdL s (zee p)).length:Int)),(44,.sl zV (cdL s (zee p))),(6,.own 1),(3,.loc 0 0),(0,.dptr (ixE s))],[(0,.box 28 (ptE p)),(1,.arr 3 zV 1 (onN s p ((cdL s (zee p)).take j)))],2,71,0⟩,λj=>j<=(cdL s (zee p)).length,λj=>(cdL s (zee p)).length-j,0,Xh _,?_,?_⟩
 ·exact zC [(0,some 0),(1,none)]
 rintro j hj
 have hj:j<=(cdL s (zee p)).length:=hj
 have hll:(onN s p ((cdL s (zee p)).take j)).length<=8:=by
  unfold onN;rw[Xx];refine XC (KY _ _) ?_;rw[Xo];omega
 refine⟨λg=>?_,λg=>?_⟩
 ·have g:(j:Int)<(cdL s (zee p)).length:=g;refine Ob.o ?_;intro i hi;have hi:(cdL s (zee p))[j]?=some i:=hi;refine Dr.k<|zb.t (zzT s p i ht)<|⟨λc=>?_,λc=>?_⟩
  ·refine Ob.mk (zCW (Xf hi)) ?_;intro n hn;refine⟨Int,zV,[n.id],rfl,Ob.o5 ?_⟩;refine⟨[n.id],rfl,Ob.mk ⟨by show(((onN s p ((cdL s (zee p)).take j)).length:Int)+1)*8<=_;omega,by rw[Kc];omega,dC,λx hx=>by rw[Xv.1 hx];rfl⟩ ?_⟩;exact Ar.o<|⟨j+1,by show j+1<=(cdL s (zee p)).length;omega,zu [0,3] ⟨rfl,Xg (λq=>some (Mem.arr 3 zV 1 q)) (by rw[zEM hi c,zoY hn]),trivial⟩,by dsimp only;omega⟩
  exact Ar.o<|⟨j+1,by show j+1<=(cdL s (zee p)).length;omega,zu [0,1] ⟨rfl,Xg (λq=>some (Mem.arr 3 zV 1 q)) (on_no hi c).symm,trivial⟩,by dsimp only;omega⟩
 have g:¬(j:Int)<(cdL s (zee p)).length:=g;exact z0 (by rw[ea,Xi oM])
def zz7:ltS pgH:=by decide +kernel
def zwm:jY pgH:=by decide +kernel
def zz8:(arN pgH pgH.ns.length).area<=1:=by decide +kernel
def zEN:atI pgH ⟨9,0⟩=[5,7]/\(cdL pgH ⟨0,0,4,4⟩).map (ndI pgH)=[5,7]/\(cdL pgH ⟨1,0,4,4⟩).map (ndI pgH)=[]:=by decide +kernel
def zEO:zbT pgH ⟨5,5⟩=[5,7]/\zbT pgH ⟨256,5⟩=[]/\zbT pgH ⟨9,0⟩=[5,7]/\zo0 pgH zp=[3,5]/\zo0 pgH ⟨999,0⟩=[]/\onS pgH zp 1=true/\¬onS pgH zp 3=true:=by decide +kernel
def zlw:CG0 5 [] [] (bl true) []:=by
 refine zc Tryz.func5 ?_;have ht:=zoS zz7;obtain⟨i1,i2,i3⟩:=zEN;obtain⟨a1,a2,a3,a4,a5,a6,a7⟩:=zEO;refine zb.t zCa<|zb.t (zCc pgH zz7 zwm zz8)<|⟨λk=>absurd rfl k,λ_=>?_⟩;refine zb.t (p_at pgH ⟨9,0⟩ ht dC)<|⟨Int,zV,[5,7],rfl,Ob.o0 ?_⟩;refine zb.t (zo1 (atI pgH ⟨9,0⟩) [5,7])<|⟨λk=>absurd i1 k,λ_=>?_⟩;refine zb.t (zrw pgH ⟨0,0,4,4⟩ dC)<|⟨Int,zV,[5,7],rfl,Ob.o0 ?_⟩;refine zb.t (zo1 ((cdL pgH ⟨0,0,4,4⟩).map (ndI pgH)) [5,7]) ?_
 refine⟨λk=>absurd i2 k,λ_=>?_⟩;refine zb.t (zrw pgH ⟨1,0,4,4⟩ dC) ?_;intro hl0;refine⟨λk=>absurd (show(((cdL pgH ⟨1,0,4,4⟩).map (ndI pgH)).length:Int)=0 by rw[i3];rfl) k,λ_=>?_⟩;refine zb.t (zCS pgH ⟨5,5⟩ ht)<|zb.t (zCS pgH ⟨256,5⟩ ht)<|⟨λ_=>?_,λk=>absurd (show(zbT pgH ⟨5,5⟩).headD 0=5 by rw[a1];rfl) k⟩;refine⟨λ_=>?_,λk=>absurd (show 0<(zbT pgH ⟨5,5⟩).length by rw[a1];decide) k⟩
 refine⟨λ_=>?_,λk=>absurd (show¬0<(zbT pgH ⟨256,5⟩).length by rw[a2];decide) k⟩;refine zb.t (zzT pgH zp 1 ht)<|⟨λ_=>?_,λk=>absurd a6 k⟩;refine zb.t (zzT pgH zp 3 ht)<|⟨λ_=>?_,λk=>absurd a7 k⟩;refine zb.t (l_got pgH ⟨9,0⟩ ht dC)<|⟨Int,zV,[5,7],rfl,Ob.o0 ?_⟩;refine zb.t (zo1 (zbT pgH ⟨9,0⟩) [5,7])<|⟨λ_=>?_,λk=>absurd a3 k⟩;refine zb.t (zCT pgH zp ht)<|⟨Int,zV,[3,5],rfl,Ob.o0 ?_⟩;refine zb.t (zo1 (zo0 pgH zp) [3,5]) ?_
 refine⟨λ_=>?_,λk=>absurd a4 k⟩;refine zb.t (zCT pgH ⟨999,0⟩ ht) ?_;intro hl1;exact zwZ (show((zo0 pgH ⟨999,0⟩).length:Int)=0 by rw[a5];rfl)
def l_hitContains(s:Sc)(i:Int)(p:Pt):CG0 3 [.agg (scE s),i64 i,.agg (ptE p)] [] (bl true) []:=by
 refine zc Tryz.func3 ?_;refine zb.t (zzH s)<|⟨λ_=>zb.to _ zlw rfl .refl,λh=>?_⟩;have ht:=zoS (Xa.1 h);refine Dr.k<|zb.t (zzT s p i ht)<|zb.t (k_on s p i ht)<|⟨λ_=>?_,λk=>absurd K7 k⟩;exact zb.to _ zlw rfl .refl
end Go.Gs
namespace Go.Gs
open Go.Proofs Go.RowKit
def laidOut:laidOutB Tryz.prog=true:=by kernel_rfl
def wfi{n:Int}(h:(Lit.int .i64 n).wf=true):R64 n:=r64 h
def wf32{n:Int}(h:(Lit.int .u32 n).wf=true):0<=n/\n<=4294967295:=by
 simp only[Lit.wf,XA,decide_eq_true_eq]at h;exact h
def shI:Sh:=.int .i64
def shB:Sh:=.int .u8
def zno:Sh:=.st (.cons .bool (.cons (.sl (.int .u32)) .nil))
def zfl:Sh:=.st (.cons zno (.cons zno .nil))
def zwn:Sh:=.st (.cons zfl (.cons zfl (.cons zfl (.cons zfl (.cons zfl (.cons zfl .nil))))))
def zrx(n:Int):Dig:=dof n.toNat
def toBI(y:zno.T):BI:=⟨y.1,List.map zrx y.2.1⟩
def zs0(y:zfl.T):BR:=⟨toBI y.1,toBI y.2.1⟩
def toAF(y:zwn.T):AF:=⟨zs0 y.1,zs0 y.2.1,zs0 y.2.2.1,zs0 y.2.2.2.1,zs0 y.2.2.2.2.1,zs0 y.2.2.2.2.2.1⟩
def zCX(y:zno.T)(h:zno.wf y):qZ (zno.enc y) (biE (toBI y)):=by
 refine .C (.cons ?_ .nil);refine LEd.sl zrx λn hn=>?_
 have h1:=wf32 (h.2.1 n hn)
 have e:((zrx n).val:Int)=n:=by
  unfold zrx;rw[ky];omega
 show qZ [.val (.int .u32 n)] [.val (.int .u32 ((zrx n).val:Int))];rw[e];exact .refl
def znp(y:zfl.T)(h:zfl.wf y):qZ (zfl.enc y) (brE (zs0 y)):=qZ.append (zCX y.1 h.1) (qZ.append (zCX y.2.1 h.2.1) .nil)
def zCY(y:zwn.T)(h:zwn.wf y):qZ (zwn.enc y) (afE (toAF y)):=
 qZ.append (znp _ h.1) (qZ.append (znp _ h.2.1) (qZ.append (znp _ h.2.2.1) (qZ.append (znp _ h.2.2.2.1) (qZ.append (znp _ h.2.2.2.2.1) (by
  have:=qZ.append (znp _ h.2.2.2.2.2.1) .nil
  rwa [XE,XE]at this)))))
section
variable{H:Type}{enc:TypeId×Value->H}{W:World}{b0:Nat}{held:Bool}
end
end Go.Gs
namespace Go.Gs
open Go.Proofs Go.RowKit
def zs1:Sh:=.st (.cons shI (.cons shI .nil))
def zwo(y:zs1.T):Pt:=⟨y.1,y.2.1⟩
def shSg:Sh:=.st (.cons shI (.cons zs1 (.cons zs1 (.cons zs1 .nil))))
def zwp(y:shSg.T):Sg:=⟨y.1,zwo y.2.1,zwo y.2.2.1,zwo y.2.2.2.1⟩
def toI(y:shI.T):Int:=y
def zuF:Sh:=.st (.cons shI (.cons shI (.cons shI (.cons shI (.cons (.sl shI) (.cons shI .nil))))))
def zz9(y:zuF.T):Pen:=⟨y.1,y.2.1,y.2.2.1,y.2.2.2.1,List.map toI y.2.2.2.2.1,y.2.2.2.2.2.1⟩
def zEP(y:zuF.T):qZ (zuF.enc y) (jb (zz9 y)):=.C (.C (.C (.C (.cons (LEd.sl toI λ_ _=>qZ.refl) (.C .nil)))))
section
variable{H:Type}{enc:TypeId×Value->H}{W:World}{b0:Nat}{held:Bool}
end
end Go.Gs
