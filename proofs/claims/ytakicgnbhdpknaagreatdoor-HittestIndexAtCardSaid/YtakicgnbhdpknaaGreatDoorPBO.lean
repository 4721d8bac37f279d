/- Children of a node, both texts; the program's Ancestors. -/
import Derived.Test.YtakicgnbhdpknaaGreatDoorPBN
import Derived.Test.YtakicgnbhdpknaaGreatDoorPBG
set_option maxRecDepth 100000
set_option maxHeartbeats 8000000
set_option linter.all false
namespace Go.Gs
open Proofs.Tryz
open Go.Proofs
def dN(l:LW)(k:Nat):Int:=(zI l).getD k 0
variable{l:LW}
def zmo{k:Nat}{n:Nd}(h:l[k]?=some n):dN l k=n.d:=by unfold dN;rw[Xr,yT h];rfl
def zmp{l:LW}{k:Nat}(h:k<l.length):(zI l)[k]?=some (dN l k):=by
 rw[zmo (Xb h)];exact yT (Xb h)
def zos{g:LV}(h:zeB g){b:Nat}{x e:Int}(n:g[b]?=some x)(u:x<=e):∀{k:Nat} {d:Int},b<=k->g[k]?=some d->e<d->∃j,b<=j/\j<k/\g[j]?=some e
 |0,d,s,f,t=>by
  obtain rfl:b=0:=oM;rw[n]at f;cases f;omega
 |k+1,d,s,f,t=>by
  obtain⟨a,m⟩:∃a,g[k]?=some a:=⟨_,Xb (by have:=(Xd.1 f).1;omega)⟩;have w:=h.2.2 k a d m f
  by_cases o:b=k+1
  .subst o;rw[n]at f;cases f;omega
  by_cases c:a=e
  .exact⟨k,oM,oM,by rw[m,c]⟩
  obtain⟨j,q,v,r⟩:=zos h n u oM m oM;exact⟨j,q,oM,r⟩
def zmq(l:LW)(i e:Nat):Prop:=i<e/\e<=l.length/\(∀j,i<j->j<e->dN l i<dN l j)/\(e<l.length->dN l e<=dN l i)
def zwh(l:LW)(i:Nat):∀(m k:Nat),k+m=l.length->i<k->(∀j,i<j->j<k->dN l i<dN l j)->∃e,zmq l i e
 |0,k,h,hi,a=>⟨k,hi,oM,a,λq=>by omega⟩
 |m+1,k,h,hi,a=>by
  by_cases c:dN l i<dN l k
  .refine zwh l i m (k+1) oM oM λj d f=>?_
   by_cases e:j=k
   .rw[e];exact c
   exact a j d oM
  exact⟨k,hi,oM,a,λ_=>by omega⟩
variable{i:Nat}
def zuw{k:Nat}(g:k<l.length)(h:yl (zI l) k=i):i<k/\dN l k=dN l i+1:=by
 have a:=zcH (zI l) (dN l k-1) k;have e:yl (zI l) k=yA (zI l) (dN l k-1) k:=rfl;rw[e]at h;rw[h]at a;have d:=a.2.2 oM;have c:(zI l)[i]?=some (dN l k-1):=d;have f:i<k:=oM;rw[zmp oM]at c;have:=Xl c;exact⟨f,oM⟩
variable{e:Nat}
def zEs{k:Nat}(c:zmq l i e)(m:i<k)(r:k<e):yl (zI l) k=i↔dN l k=dN l i+1:=by
 have o:=c.2.1;refine⟨λh=>(zuw oM h).2,λh=>?_⟩
 have ep:yl (zI l) k=yA (zI l) (dN l i) k:=by
  show yA (zI l) (dN l k-1) k=_;rw[h,Int.add_sub_cancel]
 have g:=zmi (d:=dN l i) m (zmp oM);have f:=zcH (zI l) (dN l i) k;rw[ep];refine JQ (JF.1 λq=>?_) g;obtain⟨j,n⟩:=Qu (show 0<=yA (zI l) (dN l i) k by omega);have a:=f.2.2 oM;rw[n]at a q f;have a:(zI l)[j]?=some (dN l i):=a;have s:=c.2.2.1 j oM oM;rw[zmp oM]at a;have:=Xl a;omega
def zEt(n:zeB (zI l)){k:Nat}(d:zmq l i e)(f:e<=k)(c:k<l.length):yl (zI l) k≠i:=λh=>by
 obtain⟨a,b⟩:=zuw c h;have m:=d.2.2.2 oM;obtain⟨j,r,o,q⟩:=zos n (zmp (l:=l) (k:=e) oM) m f (zmp c) oM;have g:=zmi o q
 have ep:yl (zI l) k=yA (zI l) (dN l i) k:=by
  show yA (zI l) (dN l k-1) k=_;rw[b,Int.add_sub_cancel]
 have:=d.1;omega
def zeK(l:LW)(i n:Nat):LV:=((List.range n).filter λk=>decide (yl (zI l) k=i)).map λk:Nat=>(k:Int)
def zwi{n:Nat}(h:yl (zI l) n=i):zeK l i (n+1)=zeK l i n++[(n:Int)]:=by
 unfold zeK;rw[KC,Kk,XA];simp[h]
def zp9{n:Nat}(h:¬yl (zI l) n=i):zeK l i (n+1)=zeK l i n:=by
 unfold zeK;rw[KC,Kk,XA];simp[h]
def zwj(l:LW)(i:Nat):∀n,n<=i+1->zeK l i n=[]
 |0,_=>rfl
 |n+1,h=>by
  rw[zp9 λk=>by have:=zfn (zI l) n;omega];exact zwj l i n oM
def zsR{l:LW}(c:zeB (zI l)){i e:Nat}(a:zmq l i e):∀m,e+m<=l.length->zeK l i (e+m)=zeK l i e
 |0,_=>rfl
 |m+1,h=>by
  rw[←KH,zp9 (zEt c a oM oM)];exact zsR c a m oM
def zwk(l:LW)(i n:Nat):(zeK l i n).length<=n:=by
 unfold zeK;rw[Xw];have:=Qb (λk=>decide (yl (zI l) k=i)) (List.range n)
 rwa [Ki]at this
def zaY(s:Sc)(i:Nat):LV:=zeK s.ns i s.ns.length
def zHe{s:Sc}{k:Int}(h:k∈zaY s i):∃m:Nat,k=m/\m<s.ns.length/\dN s.ns m=dN s.ns i+1:=by
 unfold zaY zeK at h;obtain⟨m,d,rfl⟩:=XN.1 h;obtain⟨a,c⟩:=QE.1 d;have a:=XU.1 a;exact⟨m,rfl,a,(zuw a (of_decide_eq_true c)).2⟩
def zwl{α:Type _}{xs:List α}(h:xs=[]):Nat.beq xs.length 0=true:=by rw[h];rfl
def s_end(l:LW)(i e:Nat)(h:zmq l i e)(v:l.length<=64):CX 84 [.sl ndE l,i64 i] (i64 e):=by
 obtain⟨t,u,j,m⟩:=h;refine zc func84<|wa<|⟨Nat,λk=>⟨[(5,i64 k),(1,i64 i),(0,.sl ndE l)],[],0,28,0⟩,λk=>i<k/\k<=e,λk=>e-k,i+1,⟨oM,oM⟩,?_,?_⟩
 .exact zC []
 rintro k ⟨n,f⟩
 refine wc λo=>?_;refine⟨λg:(k:Int)<l.length=>?_,λg:¬(k:Int)<l.length=>?_⟩
 .refine wb λx r=>?_;have ex:=zmo (show l[k]?=some x from r);refine wb λy s=>?_;have ey:=zmo (show l[i]?=some y from s);refine⟨λc=>?_,λc:¬y.d<x.d=>?_⟩
  .have c:y.d<x.d:=c
   have a:k<e:=Nat.lt_of_le_of_ne f λq=>by
    subst q;have:=m oM;omega
   exact wa<|⟨k+1,⟨oM,a⟩,zC [],oN⟩
  refine ze (Xg Int.ofNat (Nat.le_antisymm f (Nat.not_lt.1 λq=>?_)));have:=j k n q;omega
 exact ze oM
def zHf(s:Sc)(i:Nat)(ht:zcJ s)(hi:inS s i):CX 48 [wq s,i64 i] (.sl zM (zaY s i)):=by
 have B:=zaE hi.1;have z:=yw hi.1;have h:i<s.ns.length:=by have:=hi.2.2;omega
 obtain⟨n,m⟩:∃n,s.ns[i]?=some n:=⟨_,Xb h⟩;have C:=zmo m;have r:=yH hi.1 n (Xf m);obtain⟨e,a⟩:=zwh s.ns i (s.ns.length-(i+1)) (i+1) oM oM λj D E=>oM
 have t:=a.1;have u:=a.2.1;refine zc func48<|Br.mk (λ_=>?_) (λk=>by have k:¬¬(i:Int)= -1:=k;omega);refine wg (zBA s i ht)<|⟨λk=>absurd hi k,λ_=>?_⟩;refine wg (zhH s ht)<|⟨λk=>absurd hi.1 k,λ_=>?_⟩;refine wc λA=>?_;refine⟨λ_=>?_,λk=>by have k:¬(0:Int)<=i:=k;omega⟩;refine wc<|wb λx f=>?_;rw[show x=n from Xl ((show s.ns[i]?=some x from f).symm.trans m)];(iterate 2 refine wa ?_)
 refine wg (s_end s.ns i e a z)<|⟨Nat,λk=>⟨[(9,i64 k),(8,.own 1),(7,i64 e),(5,i64 (n.d+1)),(2,.loc 0 0)],[(1,.arr 3 zM 1 (zeK s.ns i k)),(0,.box 26 (scE s))],2,60,0⟩,λk=>i<k/\k<=e,λk=>e-k,i+1,⟨oM,oM⟩,?_,?_⟩
 .exact zdy [(0,some 0),(1,none)] ⟨zwl (zwj s.ns i (i+1) (Xj _)),rfl,tV⟩
 rintro k ⟨v,w⟩
 refine⟨λg:(k:Int)<e=>?_,λg=>?_⟩
 .refine wb λx f=>?_;have ex:=zmo (show s.ns[k]?=some x from f);have o:=zEs a v (show k<e by omega);have y:=zwk s.ns i k;refine⟨λc:x.d=n.d+1=>?_,λc:¬x.d=n.d+1=>?_⟩
  .refine⟨Int,zM,[(k:Int)],rfl,wb3 ?_⟩;refine⟨[(k:Int)],rfl,Ob.mk ⟨by show(((zeK s.ns i k).length:Int)+1)*8<=_;omega,by rw[XZ];omega,dC,λx f=>by rw[Xu.1 f];rfl⟩ ?_⟩;exact wa<|⟨k+1,⟨oM,oM⟩,zt [0,3] ⟨aR (zwi (o.2 oM)).symm,rfl,tV⟩,oN⟩
  exact wa<|⟨k+1,⟨oM,oM⟩,zt [0,1] ⟨aR (zp9 λq=>by have:=o.1 q;omega).symm,rfl,tV⟩,oN⟩
 obtain rfl:k=e:=by have g:¬(k:Int)<e:=g;omega
 refine z6 ?_;have:=zsR B a (s.ns.length-k) oM;rw[show k+(s.ns.length-k)=s.ns.length by omega]at this;exact this.symm
def zEu(s:Sc)(i:Nat)(ht:zcJ s)(hi:inS s i):CX 88 [wq s,i64 i] (.sl zM (zaY s i)):=by
 have h:=yw hi.1;have a:=yH hi.1;refine zc func88<|⟨Int,zM,[],rfl,wb2 ?_⟩;refine⟨λ_=>?_,λk=>by have k:¬¬(i:Int)= -1:=k;omega⟩;refine wg (zsA s i ht)<|⟨λk=>absurd hi k,λ_=>?_⟩;refine wg (zaG s ht)<|⟨λk=>absurd hi.1 k,λ_=>?_⟩;refine⟨Nat,λk=>⟨[(6,i64 k),(5,.own 1),(2,.loc 0 0),(1,i64 i)],[(1,.arr 3 zM 1 (zeK s.ns i k)),(0,.box 26 (scE s))],2,40,0⟩,λk=>k<=s.ns.length,λk=>s.ns.length-k,0,Xh _,zf [0,1],?_⟩
 rintro k d
 have d:k<=s.ns.length:=d;intro j;refine⟨λg:(k:Int)<s.ns.length=>?_,λg=>?_⟩
 .obtain⟨y,n⟩:∃y,s.ns[k]?=some y:=⟨_,Xb oM⟩;refine wg (zBK s.ns k y n a h) ?_;have f:=zwk s.ns i k;refine⟨λc:yl (zI s.ns) k=i=>?_,λc:¬yl (zI s.ns) k=i=>?_⟩
  .refine⟨Int,zM,[(k:Int)],rfl,wb3 ?_⟩;refine⟨[(k:Int)],rfl,Ob.mk ⟨by show(((zeK s.ns i k).length:Int)+1)*8<=_;omega,by rw[XZ];omega,dC,λx m=>by rw[Xu.1 m];rfl⟩ ?_⟩;exact wa<|⟨k+1,by show k+1<=s.ns.length;omega,zt [0,3] ⟨aR (zwi c).symm,rfl,tV⟩,oN⟩
  exact wa<|⟨k+1,by show k+1<=s.ns.length;omega,zt [0,1] ⟨aR (zp9 c).symm,rfl,tV⟩,oN⟩
 obtain rfl:k=s.ns.length:=by have g:¬(k:Int)<s.ns.length:=g;omega
 exact .refl
def zFl(s:Sc)(i:Int)(ht:zcJ s):CX 28 [wq s,i64 i] (.sl zM (jj s i)):=by
 refine zc func28<|wg (zBA s i ht)<|⟨λh=>by rw[show jj s i=[] from Xc h];exact zD,λh=>?_⟩;have h:inS s i:=Xa.1 h;obtain⟨i,rfl⟩:∃k:Nat,i=(k:Int):=⟨i.toNat,by have:=h.2.1;omega⟩;have f:=yw h.1;have c:=yH h.1;have j:i<s.ns.length:=by have:=h.2.2;omega
 have d:jj s i=zaV ((qH (zI s.ns) i).reverse):=Xe h
 refine⟨Int×LV,λz=>⟨[(6,i64 z.1),(5,.own 1),(2,.loc 0 0)],[(1,.arr 3 zM 1 z.2),(0,.box 26 (scE s))],2,23,0⟩,
  λz=>(-1<=z.1/\z.1<s.ns.length/\z.2.length<=100)/\zaV ((qH (zI s.ns) z.1).reverse)++z.2=jj s i/\z.1+z.2.length<=64,λz=>(z.1+1).toNat,(i,[]),⟨⟨oN,oN,Xh _⟩,by rw[d,XC],by dsimp only;rw[Xs];omega⟩,zC [(0,some 0),(1,none)],?_⟩
 rintro⟨k,out⟩ ⟨⟨o,r,t⟩,a,u⟩
 dsimp only at o r t a u ⊢;refine⟨λg:0<=k=>?_,λg:¬0<=k=>?_⟩
 .obtain⟨k,rfl⟩:∃q:Nat,k=(q:Int):=⟨k.toNat,oM⟩;obtain⟨y,n⟩:∃y,s.ns[k]?=some y:=⟨_,Xb oM⟩;have m:=zfn (zI s.ns) k;refine⟨Int,zM,[(k:Int)],rfl,wb3 ?_⟩;refine⟨out,rfl,Ob.mk ⟨by show((([(k:Int)]:LV).length:Int)+(out.length:Int))*8<=_;rw[XZ];omega,by rw[XZ];omega,dC,λ_ _=>rfl⟩ ?_⟩;refine wg (zBB s.ns k y n c f) ?_
  refine⟨(yl (zI s.ns) k,(k:Int)::out),⟨⟨m.1,oN,by dsimp only;rw[Xn];omega⟩,?_,by dsimp only;rw[Xn];omega⟩,zf [0,3],oN⟩;dsimp only;rw[←a,jy (zI s.ns) k,List.reverse_cons];unfold zaV;rw[XA,XM];rfl
 rw[zbh oM]at a;exact z6 a
def ziY{s:Sc}{i:Int}(h:(kj s i).2=0):inS s i:=zam.2 λk=>by rw[h]at k;exact absurd k dC
def zwm(s:Sc)(i:Int)(ht:jd s):CX 72 [wq s,i64 i] (.sl zk (vn s i)):=by
 refine zc func72<|wg (zj8 s i ht) ?_;have nil:vn s i=[]->LE nS (.sl zk (vn s i)):=λh=>by rw[h];exact zD
 refine⟨λh=>nil ?_,λd=>?_⟩
 .unfold vn uO;rw[Xe (show(kj s i).2≠0 from h)];split <;> rfl
 have d:(kj s i).2=0:=Xa.1 d;have a:=ziY d;obtain⟨n,m⟩:=uP a;have hi:=(Xd.1 m).1;have o:=a.2;have f:=zdm a m;have get:∀x,s.ns[i.toNat]?=some x->x=n:=λx c=>Xl (c.symm.trans m)
 refine wb λx c=>?_;rw[get x c];refine⟨λh=>nil ?_,λg=>?_⟩
 .exact Xe (.inl (by rw[f];exact h))
 have g:n.k=2:=Xa.1 g;refine wb λx c=>?_;rw[get x c];intro _;refine⟨λh=>nil ?_,λj=>?_⟩
 .have h:(n.fill.length:Int)=0:=h;exact Xe (.inr (by rw[f];omega))
 have j:¬(n.fill.length:Int)=0:=j;refine wc<|wb λx c=>?_;rw[get x c];refine wg (zpQ n.path (kj s i).1 32 ((zaH s i).up dC)) ?_
 have e:vn s i=(yq n.path (kj s i).1 32).1:=by
  unfold vn uO;rw[f,Xc (λk=>k.elim (λk=>k g) λk=>j oM),Xc (λk=>k d)]
 rw[e];exact .refl
def zwn(s:Sc)(i:Int)(ht:jd s):CX 73 [wq s,i64 i] (.sl zk (vO s i)):=by
 refine zc func73<|wg (zj8 s i ht) ?_;have nil:vO s i=[]->LE nS (.sl zk (vO s i)):=λh=>by rw[h];exact zD
 refine⟨λh=>nil ?_,λd=>?_⟩
 .unfold vO;rw[Xe (show(kj s i).2≠0 from h)];split <;> rfl
 have d:(kj s i).2=0:=Xa.1 d;have c:=ziY d;obtain⟨n,m⟩:=uP c;have hi:=(Xd.1 m).1;have o:=c.2;have f:=zdm c m;have get:∀x,s.ns[i.toNat]?=some x->x=n:=λx a=>Xl (a.symm.trans m)
 refine wb λx a=>?_;rw[get x a];refine⟨λh=>nil ?_,λg=>?_⟩
 .exact Xe (.inl (by rw[f];exact h))
 have g:n.k=2:=Xa.1 g;refine wb λx a=>?_;rw[get x a];intro _;refine⟨λh=>nil ?_,λj=>?_⟩
 .have h:(n.strk.length:Int)=0:=h;exact Xe (.inr (by rw[f];omega))
 have j:¬(n.strk.length:Int)=0:=j;refine wc<|wb λx a=>?_;rw[get x a];refine wb λx a=>?_;rw[get x a];refine wg (zx7 n.path n.pen (kj s i).1 32 ((zaH s i).up dC)) ?_
 have e:vO s i=(zaU n.path n.pen (kj s i).1 32).1:=by
  unfold vO;rw[f,Xc (λk=>k.elim (λk=>k g) λk=>j oM),Xc (λk=>k d)]
 rw[e];exact .refl
def zB8(s:Sc)(i:Int)(ht:jd s):CX 74 [wq s,i64 i] (.sl zk (zdl s i)):=by
 refine zc func74<|wg (zj8 s i ht) ?_;have nil:zdl s i=[]->LE nS (.sl zk (zdl s i)):=λh=>by rw[h];exact zD
 refine⟨λh=>nil ?_,λd=>?_⟩
 .unfold zdl uO;rw[Xe (show(kj s i).2≠0 from h)];split <;> rfl
 have d:(kj s i).2=0:=Xa.1 d;have a:=ziY d;obtain⟨n,g⟩:=uP a;have hi:=(Xd.1 g).1;have m:=a.2;have j:=zdm a g;have get:∀x,s.ns[i.toNat]?=some x->x=n:=λx c=>Xl (c.symm.trans g)
 refine wb λx c=>?_;rw[get x c];refine⟨λh=>nil ?_,λf=>?_⟩
 .exact Xe (by rw[j];exact h)
 have f:n.k=3:=Xa.1 f;refine wc<|wb λx c=>?_;rw[get x c];refine wb λx c=>?_;rw[get x c];refine wg (zjn 0 0 n.im.w n.im.h)<|wg (zpQ (za1 0 0 n.im.w n.im.h) (kj s i).1 32 ((zaH s i).up dC)) ?_
 have e:zdl s i=(yq (za1 0 0 n.im.w n.im.h) (kj s i).1 32).1:=by
  unfold zdl uO;rw[j,Xc (λk=>k f),Xc (λk=>k d)]
 rw[e];exact .refl
def zqa(s:Sc)(p:Pt)(k:Int):Prop:=0<(zS s k).clip.length->yi (zoe s k) (zS s k).cr p
instance (s:Sc) (p:Pt) (k:Int):Decidable (zqa s p k):=inferInstanceAs (Decidable (_->_))
def ux(s:Sc)(i:Int)(p:Pt):Prop:=inS s i/\zm p/\∀k∈jj s i,zqa s p k
instance (s:Sc) (i:Int) (p:Pt):Decidable (ux s i p):=wi
def zot(s:Sc)(k:Int):kB (zoe s k):=by
 unfold zoe;split
 .exact zbj
 exact ziV _ _
def zqb{s:Sc}{i k:Int}(h:k∈jj s i):inS s i/\inS s k:=by
 unfold jj at h
 split at h
 .rename_i hi;obtain⟨a,c,rfl⟩:=XN.1 h;obtain⟨i,rfl⟩:∃q:Nat,i=(q:Int):=⟨i.toNat,by have:=hi.2.1;omega⟩;have:=zsI (i+1) i oM a (List.mem_reverse.1 c);exact⟨hi,hi.1,oM,by have:=hi.2.2;omega⟩
 cases h
def zHg{s:Sc}{i:Int}(h:inS s i):(jj s i).length≠0:=by
 obtain⟨i,rfl⟩:∃q:Nat,i=(q:Int):=⟨i.toNat,by have:=h.2.1;omega⟩;rw[show jj s i=_ from Xe h,jy];simp
def zhT{s:Sc}{k:Int}(h:inS s k){n:Nd}(a:s.ns[k.toNat]?=some n):n=zS s k:=(zdm h a).symm
variable{x:Int}
def zcL{l:LV}{j:Nat}{P:Int->Prop}(d:l[j]?=some x)(h:∀k∈l.take j,P k)(c:P x):∀k∈l.take (j+1),P k:=λk a=>by
 rw[Xm,d]at a
 rcases Xt.1 a with q|q
 .exact h k q
 rw[show k=x by simpa using q];exact c
def zEv(s:Sc)(i:Int)(p:Pt)(ht:jd s):CX 43 [wq s,i64 i,wk p] (pr (ux s i p)):=by
 refine zc func43<|wg (zFl s i ht.tame) λo=>?_;refine⟨λh=>zd λk=>zHg k.1 (by have h:((jj s i).length:Int)=0:=h;omega),λh=>?_⟩;have h:¬((jj s i).length:Int)=0:=h;refine wg (qa p)<|⟨λh=>zd λk=>h k.2.1,λf=>?_⟩;have f:zm p:=Xa.1 f;intro t
 refine⟨Nat,λj=>⟨[(25,i64 j),(24,i64 ((jj s i).length:Int)),(23,.sl zM (jj s i)),(5,.loc 1 0),(3,.loc 0 0)],[(1,.box 28 (ptE p)),(0,.box 26 (scE s))],2,49,0⟩,
  λj=>j<=(jj s i).length/\∀k∈(jj s i).take j,zqa s p k,λj=>(jj s i).length-j,0,⟨Xh _,λk a=>by cases a⟩,zf [0,1],?_⟩
 rintro j ⟨u,d⟩
 refine⟨λg:(j:Int)<(jj s i).length=>?_,λg:¬(j:Int)<(jj s i).length=>?_⟩
 .refine wb λk(a:(jj s i)[j]?=some k)=>?_;have m:=Xf a;obtain⟨_,hi⟩:=zqb m;refine wg (zEi s k ht)<|wc<|Br.mk (λc=>?_) (λc=>?_)
  .refine Ob.mk hi.2 λn r=>?_;rw[zhT hi r];refine wg (zhR _ _ p (zot s k))<|⟨λq=>zd λz=>q (z.2.2 k m c),λq=>?_⟩;exact wa<|⟨j+1,⟨oM,zcL a d λ_=>Xa.1 q⟩,zf [0,1],oN⟩
  exact wa<|⟨j+1,⟨oM,zcL a d λq=>absurd q c⟩,zf [0,1],oN⟩
 rw[Xi oM]at d;refine zH ⟨?_,f,d⟩;obtain⟨k,a⟩:∃k,k∈jj s i:=Q8 _ λq=>h (by rw[q];rfl)
 exact(zqb a).1
def zEw(s:Sc)(i:Int):CX 121 [wq s,i64 i] (pr (0<=i/\i<s.ns.length)):=by
 refine zc func121<|Br.mk (λh=>?_) (λh=>zd λk=>h k.1);intro a;exact zB ⟨λk=>⟨h,k⟩,λk=>k.2⟩
def zEx(s:Sc)(i:Int)(p:Pt)(ht:jd s):CX 86 [wq s,i64 i,wk p] (pr (ux s i p)):=by
 refine zc func86<|wg (zaG s ht.tame)<|⟨λh=>zd λk=>h k.1.1,λo=>?_⟩;refine wg (zEw s i)<|⟨λh=>zd λk=>h k.1.2,λr=>?_⟩;refine wg (ki p)<|⟨λh=>zd λk=>h k.2.1,λt=>?_⟩;have v:inS s i:=⟨Xa.1 o,Xa.1 r⟩;refine wg (zBM s i ht.tame) ?_
 refine⟨Nat,λj=>⟨[(8,i64 j),(7,.sl zM (jj s i)),(5,.loc 1 0),(3,.loc 0 0)],[(1,.box 28 (ptE p)),(0,.box 26 (scE s))],2,59,0⟩,
  λj=>j<=(jj s i).length/\∀k∈(jj s i).take j,zqa s p k,λj=>(jj s i).length-j,0,⟨Xh _,λk a=>by cases a⟩,zf [0,1],?_⟩
 rintro j ⟨y,d⟩
 intro w;refine⟨λg:(j:Int)<(jj s i).length=>?_,λg:¬(j:Int)<(jj s i).length=>?_⟩
 .refine wc<|wb λk(a:(jj s i)[j]?=some k)=>?_;have get:∀z,(jj s i)[j]?=some z->z=k:=λz f=>Xl (f.symm.trans a)
  have m:=Xf a;obtain⟨_,hi⟩:=zqb m;refine wg (zEj s k ht)<|wc<|Br.mk (λc=>?_) (λc=>?_)
  .refine wb λz f=>?_;rw[get z f];refine Ob.mk hi.2 λn u=>?_;rw[zhT hi u];refine wg (zhS _ _ p (zot s k))<|⟨λq=>zd λz=>q (z.2.2 k m c),λq=>?_⟩;exact wa<|⟨j+1,⟨oM,zcL a d λ_=>Xa.1 q⟩,zf [0,1],oN⟩
  exact wa<|⟨j+1,⟨oM,zcL a d λq=>absurd q c⟩,zf [0,1],oN⟩
 rw[Xi oM]at d;exact zH ⟨v,Xa.1 t,d⟩
def onB(s:Sc)(p:Pt):Nat->Int->Bool
 |0,_=>false
 |f+1,i=>decide (ux s i p)&&(if (zS s i).k=2 then decide (yi (vn s i) (zS s i).rule p)||decide (yi (vO s i) 1 p)
   else if (zS s i).k=3 then decide (yi (zdl s i) 1 p) else(zaY s i.toNat).any (onB s p f))
def zwo(s:Sc)(p:Pt)(f:Nat)(i:Int):onB s p (f+1) i=(decide (ux s i p)&&(if (zS s i).k=2 then decide (yi (vn s i) (zS s i).rule p)||decide (yi (vO s i) 1 p)
  else if (zS s i).k=3 then decide (yi (zdl s i) 1 p) else(zaY s i.toNat).any (onB s p f))):=rfl
def zkb{s:Sc}{p:Pt}{f:Nat}{i:Int}(h:¬ux s i p):¬onB s p (f+1) i=true:=by
 rw[zwo,decide_eq_false h];simp
def zmr{s:Sc}{p:Pt}{f:Nat}{i:Int}(h:ux s i p)(k:(zS s i).k=2):onB s p (f+1) i=true↔yi (vn s i) (zS s i).rule p∨yi (vO s i) 1 p:=by
 rw[zwo,decide_eq_true h,Xe k];simp
def zB9{s:Sc}{p:Pt}{f:Nat}{i:Int}(h:ux s i p)(a:¬(zS s i).k=2)(k:(zS s i).k=3):onB s p (f+1) i=true↔yi (zdl s i) 1 p:=by
 rw[zwo,decide_eq_true h,Xc a,Xe k];simp
def zFm{s:Sc}{p:Pt}{f:Nat}{i:Int}(h:ux s i p)(a:¬(zS s i).k=2)(k:¬(zS s i).k=3):onB s p (f+1) i=true↔∃j∈zaY s i.toNat,onB s p f j=true:=by
 rw[zwo,decide_eq_true h,Xc a,Xc k];simp
def zms(s:Sc)(i:Int):kB (vn s i):=zdn s i _ (by simp[vd])
def zmt(s:Sc)(i:Int):kB (vO s i):=zdn s i _ (by simp[vd])
def zou(s:Sc)(i:Int):kB (zdl s i):=zdn s i _ (by simp[vd])
def g_on1(s:Sc)(p:Pt)(ht:jd s)(f:Nat)(i:Int)(u:inS s i->∀k∈zaY s i.toNat,CX 24 [wq s,i64 k,wk p] (pr (onB s p f k=true))):
  CX 24 [wq s,i64 i,wk p] (pr (onB s p (f+1) i=true)):=by
 refine zc func24<|wg (zEv s i p ht)<|⟨λh=>zd (zkb h),λh=>?_⟩;have h:ux s i p:=Xa.1 h;have hi:=h.1;refine Ob.mk hi.2 λn t=>?_;rw[zhT hi t];refine⟨λa=>?_,λa=>?_⟩
 .refine wc<|wg (zv4 s i ht)<|wg (zhR _ _ p (zms s i))<|⟨λc=>zH ((zmr h a).2 (.inl c)),λc=>?_⟩;exact wg (zv8 s i ht)<|wg (zhR _ _ p (zmt s i))<|zB ⟨λq=>(zmr h a).2 (.inr q),λq=>((zmr h a).1 q).resolve_left c⟩
 refine⟨λo=>?_,λo=>?_⟩
 .exact wc<|wg (zBQ s i ht)<|wg (zhR _ _ p (zou s i))<|zB (zB9 h a o).symm
 have e:=zFm (f:=f) h a o;obtain⟨i,rfl⟩:∃q:Nat,i=(q:Int):=⟨i.toNat,by have:=hi.2.1;omega⟩;refine wg (zHf s i ht.tame hi) λv=>?_
 refine⟨Nat,λj=>⟨[(49,i64 j),(48,i64 ((zaY s i).length:Int)),(47,.sl zM (zaY s i)),(5,.loc 1 0),(3,.loc 0 0)],[(1,.box 28 (ptE p)),(0,.box 26 (scE s))],2,58,0⟩,
  λj=>j<=(zaY s i).length/\∀k∈(zaY s i).take j,¬onB s p f k=true,λj=>(zaY s i).length-j,0,⟨Xh _,λk d=>by cases d⟩,zf [0,1],?_⟩
 rintro j ⟨w,r⟩
 refine⟨λg:(j:Int)<(zaY s i).length=>?_,λg:¬(j:Int)<(zaY s i).length=>?_⟩
 .refine wb λk(d:(zaY s i)[j]?=some k)=>?_;have m:=Xf d;refine wg (u hi k m)<|⟨λc=>zH (e.2 ⟨k,m,c⟩),λc=>?_⟩;exact wa<|⟨j+1,⟨oM,zcL d r c⟩,zf [0,1],oN⟩
 rw[Xi oM]at r;refine zd λq=>?_
 obtain⟨k,m,c⟩:=e.1 q;exact r k m c
def k_on1(s:Sc)(p:Pt)(ht:jd s)(f:Nat)(i:Int)(v:inS s i->∀k∈zaY s i.toNat,CX 49 [wq s,i64 k,wk p] (pr (onB s p f k=true))):
  CX 49 [wq s,i64 i,wk p] (pr (onB s p (f+1) i=true)):=by
 refine zc func49 ?_;have bad:¬ux s i p->LE (bl false) (pr (onB s p (f+1) i=true)):=λh=>zd (zkb h)
 refine wg (zaG s ht.tame)<|⟨λh=>bad λk=>h k.1.1,λw=>?_⟩;refine wg (ki p)<|⟨λh=>bad λk=>h k.2.1,λy=>?_⟩;refine⟨λh=>bad λk=>by have:=k.1.2.1;have h:i<0:=h;omega,λa=>?_⟩;intro t;refine⟨λh=>bad λk=>by have:=k.1.2.2;have h:(s.ns.length:Int)<=i:=h;omega,λd=>?_⟩;refine wg (zEx s i p ht)<|Br.mk bad (λh=>?_);have h:ux s i p:=Xa.1 h;have hi:=h.1;refine Ob.mk hi.2 λn u=>?_;rw[zhT hi u]
 refine⟨λa=>?_,λa=>?_⟩
 .refine wc<|wg (zwm s i ht)<|wg (zhS _ _ p (zms s i))<|⟨λc=>zH ((zmr h a).2 (.inl c)),λc=>?_⟩;exact wg (zwn s i ht)<|wg (zhS _ _ p (zmt s i))<|zB ⟨λq=>(zmr h a).2 (.inr q),λq=>((zmr h a).1 q).resolve_left c⟩
 refine⟨λd=>?_,λd=>?_⟩
 .exact wc<|wg (zB8 s i ht)<|wg (zhS _ _ p (zou s i))<|zB (zB9 h a d).symm
 have e:=zFm (f:=f) h a d;obtain⟨i,rfl⟩:∃q:Nat,i=(q:Int):=⟨i.toNat,by have:=hi.2.1;omega⟩;refine wg (zEu s i ht.tame hi) ?_
 refine⟨Nat,λj=>⟨[(9,i64 j),(8,.sl zM (zaY s i)),(5,.loc 1 0),(3,.loc 0 0)],[(1,.box 28 (ptE p)),(0,.box 26 (scE s))],2,82,0⟩,
  λj=>j<=(zaY s i).length/\∀k∈(zaY s i).take j,¬onB s p f k=true,λj=>(zaY s i).length-j,0,⟨Xh _,λk m=>by cases m⟩,zf [0,1],?_⟩
 rintro j ⟨A,r⟩
 intro z;refine⟨λg:(j:Int)<(zaY s i).length=>?_,λg:¬(j:Int)<(zaY s i).length=>?_⟩
 .refine wc<|wb λk(m:(zaY s i)[j]?=some k)=>?_;have o:=Xf m;refine wg (v hi k o)<|⟨λc=>zH (e.2 ⟨k,o,c⟩),λc=>?_⟩;exact wa<|⟨j+1,⟨oM,zcL m r c⟩,zf [0,1],oN⟩
 rw[Xi oM]at r;refine zd λq=>?_
 obtain⟨k,o,c⟩:=e.1 q;exact r k o c
def zqc{s:Sc}{i:Int}(hi:inS s i){k:Int}(c:k∈zaY s i.toNat){f:Nat}(g:8<=f+1+dN s.ns i.toNat):1<=f/\8<=f+dN s.ns k.toNat:=by
 obtain⟨m,rfl,a,d⟩:=zHe c;have:=yH hi.1 _ (Xf (Xb a));rw[←zmo (Xb a)]at this;rw[show((m:Int)).toNat=m from rfl];omega
def zFn(s:Sc)(p:Pt)(ht:jd s):∀(f:Nat) (i:Int),1<=f->(inS s i->8<=f+dN s.ns i.toNat)->CX 24 [wq s,i64 i,wk p] (pr (onB s p f i=true))
 |0,_,h,_=>absurd h dC
 |f+1,i,_,h=>g_on1 s p ht f i λhi k a=>zFn s p ht f k (zqc hi a (by have:=h hi;omega)).1 λ_=>(zqc hi a (by have:=h hi;omega)).2
def zFo(s:Sc)(p:Pt)(ht:jd s):∀(f:Nat) (i:Int),1<=f->(inS s i->8<=f+dN s.ns i.toNat)->CX 49 [wq s,i64 i,wk p] (pr (onB s p f i=true))
 |0,_,h,_=>absurd h dC
 |f+1,i,_,h=>k_on1 s p ht f i λhi k a=>zFo s p ht f k (zqc hi a (by have:=h hi;omega)).1 λ_=>(zqc hi a (by have:=h hi;omega)).2
def onS(s:Sc)(p:Pt)(i:Int):Bool:=onB s p 8 i
def zFp{s:Sc}{i:Int}(h:inS s i):8<=((8:Nat):Int)+dN s.ns i.toNat:=by
 obtain⟨n,a⟩:=uP h;rw[zmo a];have:=yH h.1 n (Xf a);omega
def g_on(s:Sc)(p:Pt)(i:Int)(ht:jd s):CX 24 [wq s,i64 i,wk p] (pr (onS s p i=true)):=zFn s p ht 8 i dC zFp
def k_on(s:Sc)(p:Pt)(i:Int)(ht:jd s):CX 49 [wq s,i64 i,wk p] (pr (onS s p i=true)):=zFo s p ht 8 i dC zFp
def zsS(f:SV->SV):∀(L:LP) (t:Nat),kF (L.map λp=>(p.1,f p.2)) t=(kF L t).map f
 |[],_=>rfl
 |(k,s)::r,t=>by
  rw[Qr,zU,zU]
  by_cases h:k=t
  .rw[Xe h,Xe h];rfl
  rw[Xc h,Xc h];exact zsS f r t
def zCb(n:Nat){Z:St}:Sub Z ⟨Z.L.map λp=>(p.1,frz (zW Z.M) n p.2),[],Z.nk,Z.nt,Z.n0⟩:=λE O a w c=>by
 have g:=c.stp;refine⟨O,c.size,c.defers,λt s f=>?_,qr c.mem.kp λ_ _ h=>c.mem.glc h,c.fresh,⟨g.os,g.tape,g.output,g.size,g.block,λb j=>absurd j zN,g.rho⟩,c.keep,c.low⟩;have f:kF (Z.L.map λp=>(p.1,frz (zW Z.M) n p.2)) t=some s:=f;rw[zsS (frz (zW Z.M) n)]at f
 cases o:kF Z.L t with
 |none=>rw[o]at f;cases f
 |some u=>
  rw[o]at f
  cases f
  obtain⟨q,r⟩:=c.regs t u o;exact⟨q,.d _ _ ((znJ (λk m h=>zA h) c.mem n r).less λb j=>j.resolve_right zN)⟩
def ndK(s:Sc)(i:Nat):Int:=match s.ns[i]? with
 |some n=>n.k
 |none=>0
def ndI(s:Sc)(i:Int):Int:=match s.ns[i.toNat]? with
 |some n=>n.id
 |none=>0
def zmu{s:Sc}{n:Nd}(h:s.ns[i]?=some n):ndK s i=n.k:=by unfold ndK;rw[h]
def ziZ{s:Sc}{i:Int}{n:Nd}(h:s.ns[i.toNat]?=some n):ndI s i=n.id:=by unfold ndI;rw[h]
def atL(s:Sc)(p:Pt):Nat->LV
 |0=>[]
 |n+1=>if ndK s n≠1/\onS s p n=true then(n:Int)::atL s p n else atL s p n
def atA(s:Sc)(p:Pt):LV:=atL s p s.ns.length
def zaI(s:Sc)(p:Pt):LV:=(atA s p).map (ndI s)
variable{p:Pt}
def zi0{s:Sc}{n:Nat}(h:ndK s n≠1/\onS s p n=true):atL s p (n+1)=(n:Int)::atL s p n:=Xe h
def zsT{s:Sc}{n:Nat}(h:¬(ndK s n≠1/\onS s p n=true)):atL s p (n+1)=atL s p n:=Xc h
def zwq{s:Sc}{p:Pt}:∀{n:Nat} {i:Int},i∈atL s p n->0<=i/\i<n
 |n+1,i,h=>by
  unfold atL at h
  split at h
  .rcases XH.1 h with rfl|h
   .omega
   have:=zwq h;omega
  have:=zwq h;omega
def zwr(s:Sc)(p:Pt):∀(m n:Nat),(atL s p (n+m)).drop ((atL s p (n+m)).length-(atL s p n).length)=atL s p n/\(atL s p n).length<=(atL s p (n+m)).length
 |0,n=>by rw[XW,QQ];exact⟨rfl,Xj _⟩
 |m+1,n=>by
  obtain⟨a,d⟩:=zwr s p m n;rw[←KH]
  by_cases c:ndK s (n+m)≠1/\onS s p (n+m:Nat)=true
  .rw[zi0 c,Xn,show(atL s p (n+m)).length+1-(atL s p n).length=(atL s p (n+m)).length-(atL s p n).length+1 by omega,List.drop_succ_cons];exact⟨a,oM⟩
  rw[zsT c];exact⟨a,d⟩
def atT(s:Sc)(p:Pt)(n:Nat):Nat:=(atA s p).length-(atL s p n).length
def zws{s:Sc}{n:Nat}(d:n+1<=s.ns.length)(h:ndK s n≠1/\onS s p n=true):(atA s p)[atT s p (n+1)]?=some (n:Int)/\atT s p (n+1)+1=atT s p n:=by
 obtain⟨c,a⟩:=zwr s p (s.ns.length-(n+1)) (n+1);rw[show n+1+(s.ns.length-(n+1))=s.ns.length by omega]at c a;have e:=Xg (λl=>l[0]?) c;rw[KG,XW,zi0 h]at e;rw[zi0 h]at a;refine⟨?_,?_⟩
 .unfold atT;rw[zi0 h];exact e
 unfold atT atA;rw[zi0 h];rw[Xn]at a ⊢;omega
def zqd{s:Sc}{n:Nat}(h:¬(ndK s n≠1/\onS s p n=true)):atT s p (n+1)=atT s p n:=by unfold atT;rw[zsT h]
def zow(s:Sc)(p:Pt):CX 27 [wq s,wk p] (.dfn 50 [.dptr (scE s),.dptr (ptE p)]):=by
 exact zah 1 tok mix func27 rfl rfl rfl<|.refl
def zox(s:Sc)(p:Pt):CX 12 [wq s,wk p] (.dfn 26 [.dptr (scE s),.dptr (ptE p)]):=by
 exact zah 1 tok mix func12 rfl rfl rfl<|.refl
def zFq(s:Sc)(p:Pt)(ht:jd s):zfJ prog 50 [.dptr (scE s),.dptr (ptE p)] zM (atA s p):=by
 refine zjY (caps:=[.dptr (scE s),.dptr (ptE p)]) (enc:=zM) (xs:=atA s p) tok mix func50 rfl rfl rfl rfl (λl=>?_);intro u;refine wa<|⟨Nat,λj=>⟨[(4,i64 ((j:Int)-1)),(2,.dptr (ptE p)),(1,.dptr (scE s)),(0,.val (.func (.yield l) #[] #[]))],[],0,32,0⟩,λj=>atT s p j,λj=>j<=s.ns.length,λj=>j,s.ns.length,Xj _,?_,(QQ _).symm,rfl,?_⟩
 .exact zC []
 rintro j o
 have o:j<=s.ns.length:=o;refine⟨λg:0<=(j:Int)-1=>?_,λg=>?_⟩
 .obtain⟨k,rfl⟩:∃k,j=k+1:=⟨j-1,oM⟩;have ek:((k+1:Nat):Int)-1=(k:Int):=oM;have a:some (i64 (((k+1:Nat):Int)-1-1))=some (i64 ((k:Int)-1)):=by rw[ek]
  refine wb λn v=>?_;have q:=zmu (show s.ns[k]?=some n by rw[←v,ek];rfl);refine⟨λc:¬n.k=1=>?_,λc=>?_⟩
  .refine wg (g_on s p (((k+1:Nat):Int)-1) ht)<|⟨λd=>?_,λd=>?_⟩
   .have f:ndK s k≠1/\onS s p k=true:=⟨by rw[q];exact c,by rw[ek]at d;exact d⟩;obtain⟨r,t⟩:=zws o f;refine⟨rfl,(k:Int),r,rfl,.cons (ze ek) .nil,(λk m h=>by cases h),?_⟩;refine Br.mk ?_ (.inl rfl);exact wa<|⟨k,oM,jo [] ⟨a,rfl,rfl,rfl,tV⟩ trivial,t,rfl,oN⟩
   have f:¬(ndK s k≠1/\onS s p k=true):=λh=>d (by rw[ek];exact h.2)
   exact wa<|⟨k,oM,jo [] ⟨a,rfl,rfl,rfl,tV⟩ trivial,zqd f,rfl,oN⟩
  have f:¬(ndK s k≠1/\onS s p k=true):=λh=>c (by rw[←q];exact h.1)
  exact wa<|⟨k,oM,jo [] ⟨a,rfl,rfl,rfl,tV⟩ trivial,zqd f,rfl,oN⟩
 obtain rfl:j=0:=by have g:¬0<=(j:Int)-1:=g;omega
 exact .inr (by unfold atT;rfl)
def zCc(s:Sc)(p:Pt)(ht:jd s):zfJ prog 26 [.dptr (scE s),.dptr (ptE p)] zM (zaI s p):=by
 refine zCa (caps:=[.dptr (scE s),.dptr (ptE p)]) (enc:=zM) (xs:=zaI s p) tok mix func26 rfl rfl rfl rfl (λl=>?_);refine wg (zow s p)<|⟨rfl,rfl,Int,zM,atA s p,[(3,.dptr [.val (.func (.yield l) #[] #[])]),(1,.dptr (scE s))],1,zFq s p ht,λ_=>rfl,⟨rfl,rfl,rfl⟩,(Xw _).symm,(zCb 1).trans (zC []),?_⟩;intro j y a;have c:=zwq (Xf a);refine .split 7 (Ob.mk (by decide +kernel) ?_);refine Ob.mk c λn d=>?_
 refine⟨rfl,ndI s y,by unfold zaI;rw[XD,a];rfl,rfl,.cons (ze (ziZ d).symm) .nil,(λk m h=>by cases h),?_⟩;exact Br.mk ⟨rfl,rfl⟩ rfl
abbrev zCd(T:TypeId):Mem:=.box T [.sl ptE (List.replicate 9223372036854775808 zp)]
def zkc{Z:St}{k:Nat}{T:TypeId}(h:(k,zCd T)∈Z.M):¬zAG Z:=λ⟨E,O,a,w,f⟩=>by
 obtain⟨b,vs,_,_,d,_,c⟩:=f.mem.rel k _ h
 cases vs with
 |nil=>cases d
 |cons v vs=>exact zvN (c 0 _ v rfl rfl)
def firE(l:LV):SV:=.tup [i64 (l.headD 0),pr (0<l.length)]
def firS(j:Nat):LT:=match j with
 |0=>[(0,.box 3 [i64 0]),(1,.box 4 [bl false])]
 |_+1=>[(0,.box 3 [i64 0]),(1,.box 4 [bl false]),(2,zCd 3)]
def zFr(s:Sc)(p:Pt)(ht:jd s):CX 13 [wq s,wk p] (firE (zaI s p)):=by
 refine vk 1 tok mix func13 rfl rfl rfl<|wg (zox s p) ?_
 refine⟨Int,zM,zaI s p,2,[(4,.loc 0 0),(5,.loc 1 0)],firS,λ_=>3,zCc s p ht,λ_=>rfl,⟨rfl,rfl,rfl,rfl⟩,
  zf [2,3],⟨Xh _,rfl⟩,λj=>?_,?_,?_⟩
 .intro k m c
  cases j <;> (unfold firS at c;simp only[XH,XV,or_false,KJ]at c)
  .obtain⟨_,rfl⟩|⟨_,rfl⟩:=c <;> rfl
  obtain⟨_,rfl⟩|⟨_,rfl⟩|⟨_,rfl⟩:=c <;> rfl
 .intro j y d hL
  cases j with
  |succ j=>exact absurd hL (zkc (k:=2) (T:=3) (.tail _ (.tail _ (.head _))))
  |zero=>
   cases h:zaI s p with
   |nil=>rw[h]at d;cases d
   |cons a r=>
    rw[h]at d;obtain rfl:a=y:=Xl d;refine⟨[(0,.box 3 [i64 a]),(1,.box 4 [bl true])],3,zf [0,1],λk m c=>?_,zO .refl (zH (Nat.succ_pos _))⟩;simp only[XH,XV,or_false,KJ]at c
    obtain⟨_,rfl⟩|⟨_,rfl⟩:=c <;> rfl
 intro hL
 cases h:zaI s p with
 |nil=>exact zO .refl (zd dC)
 |cons a r=>rw[h]at hL;exact absurd hL (zkc (k:=2) (T:=3) (.tail _ (.tail _ (.head _))))
def zqe(s:Sc)(p:Pt):LV:=match atA s p with
 |[]=>[]
 |i::_=>(jj s i).map (ndI s)
def wayS(s:Sc)(j:Nat):LT:=match j with
 |0=>[(0,.box 26 (scE s)),(1,.box 31 [.own 2]),(2,.arr 3 zM 1 [])]
 |_+1=>[(0,.box 26 (scE s)),(1,.box 31 [.own 2]),(2,.arr 3 zM 1 []),(3,zCd 3)]
def zyn(s:Sc)(i:Int):(jj s i).length<=64:=by
 unfold jj;split
 .rename_i h;obtain⟨n,a⟩:=uP h;obtain⟨i,rfl⟩:∃q:Nat,i=(q:Int):=⟨i.toNat,by have:=h.2.1;omega⟩;have a:s.ns[i]?=some n:=a;have c:=yH h.1 n (Xf a);have:=zfo (zaE h.1) (d:=n.d.toNat) (i:=i) (by rw[yT a];congr 1;omega);rw[Xw,K8,this];omega
 exact Xh _
def zFs(s:Sc)(p:Pt)(ht:jd s):CX 15 [wq s,wk p] (.sl zM (zqe s p)):=by
 refine vk 1 tok mix func15 rfl rfl rfl<|wg (zow s p) ?_
 refine⟨Int,zM,atA s p,2,[(2,.loc 0 0),(5,.loc 1 0)],wayS s,λ_=>4,zFq s p ht,λ_=>rfl,⟨rfl,rfl,rfl,rfl⟩,
  zC [(0,some 0),(1,some 2),(2,none)],⟨Xh _,rfl⟩,λj=>?_,?_,?_⟩
 .intro k m c
  cases j <;> (unfold wayS at c;simp only[XH,XV,or_false,KJ]at c)
  .obtain⟨_,rfl⟩|⟨_,rfl⟩|⟨_,rfl⟩:=c <;> first|rfl|trivial
  obtain⟨_,rfl⟩|⟨_,rfl⟩|⟨_,rfl⟩|⟨_,rfl⟩:=c <;> first|rfl|trivial
 .intro j y d hL
  cases j with
  |succ j=>exact absurd hL (zkc (k:=3) (T:=3) (.tail _ (.tail _ (.tail _ (.head _)))))
  |zero=>
  have z:=zyn s y;refine wg (zFl s y ht.tame) λw=>?_
  have e:zqe s p=(jj s y).map (ndI s):=by
   unfold zqe
   cases hL:atA s p with
   |nil=>rw[hL]at d;cases d
   |cons a r=>rw[hL]at d;rw[show y=a from(Xl d).symm]
  refine⟨Nat,λq=>⟨[(17,i64 q),(16,i64 ((jj s y).length:Int)),(15,.sl zM (jj s y)),(5,.loc 1 0),(2,.loc 0 0)],[(0,.box 26 (scE s)),(1,.box 31 [.own 2]),(2,.arr 3 zM 1 (((jj s y).take q).map (ndI s)))],4,32,2⟩,
   λq=>q<=(jj s y).length,λq=>(jj s y).length-q,0,Xh _,zf [0,1,2],?_⟩
  rintro q t
  have t:q<=(jj s y).length:=t;refine⟨λg:(q:Int)<(jj s y).length=>?_,λg=>?_⟩
  .refine wb λk(f:(jj s y)[q]?=some k)=>?_;obtain⟨_,hi⟩:=zqb (Xf f);have o:(((jj s y).take q).map (ndI s)).length<=64:=by rw[Xw,Xo];omega
   refine wd<|Ob.mk hi.2 λn u=>?_;refine⟨Int,zM,[n.id],rfl,wb3 ?_⟩;refine⟨[n.id],rfl,Ob.mk ⟨by show(((((jj s y).take q).map (ndI s)).length:Int)+1)*8<=_;omega,by rw[XZ];omega,dC,λx v=>by rw[Xu.1 v];rfl⟩ ?_⟩;exact wh<|wa<|⟨q+1,by show q+1<=(jj s y).length;omega,zt [0,1,5] ⟨rfl,rfl,aR (by rw[Xm,f,XA,←ziZ u];rfl),tV⟩,oN⟩
  obtain rfl:q=(jj s y).length:=by have g:¬(q:Int)<(jj s y).length:=g;omega
  refine⟨[(0,.box 26 (scE s)),(1,.box 31 [.own 2]),(2,.arr 3 zM 1 (zqe s p))],4,zt [0,1,2] ⟨rfl,rfl,aR (by rw[e,X9]),tV⟩,λk m c=>?_,.refl⟩;simp only[XH,XV,or_false,KJ]at c
  obtain⟨_,rfl⟩|⟨_,rfl⟩|⟨_,rfl⟩:=c <;> first|rfl|trivial
 intro hL;unfold zqe
 cases h:atA s p with
 |nil=>exact .refl
 |cons a r=>rw[h]at hL;exact absurd hL (zkc (k:=3) (T:=3) (.tail _ (.tail _ (.tail _ (.head _)))))
def zoy{s:Sc}{n:Nat}(f:qy s)(a:n<s.ns.length)(d:∀m∈s.ns,1<=m.k/\m.k<=3)(h:ndK s n≠1):(zS s n).k=2∨(zS s n).k=3:=by
 have e:s.ns[n]?=some s.ns[n]:=Xb a;have hi:inS s (n:Int):=⟨f,oM,oM⟩
 have c:zS s n=s.ns[n]:=by
  unfold zS;rw[Xe hi,XT,e];rfl
 rw[zmu e]at h;have:=d _ (X2 a);rw[c];omega
def zsU{s:Sc}(h:qy s):∀m∈s.ns,1<=m.k/\m.k<=3:=λm a=>by
 obtain⟨i,hi⟩:=JA.1 a;exact(zcI (zbL h hi).1).1
def zsV(s:Sc)(p:Pt):∀n,(atL s p n).length<=n
 |0=>Xj _
 |n+1=>by
  have:=zsV s p n;unfold atL;split <;> (try rw[Xn]) <;> omega
def zwt{s:Sc}{p:Pt}(h:¬qy s):∀n,atL s p n=[]
 |0=>rfl
 |n+1=>by rw[zsT λc=>zkb (f:=7) (λk=>h k.1.1) c.2];exact zwt h n
def zmv(s:Sc)(p:Pt):(atA s p).length<=64:=by
 by_cases h:qy s
 .have:=zsV s p s.ns.length;have:=yw h;unfold atA;omega
 unfold atA;rw[zwt h];decide
def zyo(s:Sc)(p:Pt):(zaI s p).length<=64:=by
 unfold zaI;rw[Xw];exact zmv s p
def l_got(s:Sc)(p:Pt)(ht:jd s):CX 11 [wq s,wk p] (.sl zM (zaI s p)):=by
 refine vk 1 tok mix func11 rfl rfl rfl ?_;have g:=zyo s p;refine wg (zox s p) ?_
 refine⟨Int,zM,zaI s p,1,[(5,.loc 0 0)],λj=>[(0,.box 31 [.own 1]),(1,.arr 3 zM 1 ((zaI s p).take j))],λ_=>2,zCc s p ht,λ_=>rfl,⟨rfl,rfl,rfl,rfl⟩,
  zC [(0,some 2),(1,none)],⟨Xh _,rfl⟩,λj=>?_,?_,?_⟩
 .intro k m a;simp only[XH,XV,or_false,KJ]at a
  obtain⟨_,rfl⟩|⟨_,rfl⟩:=a <;> first|rfl|trivial
 .intro j y f _;have c:((zaI s p).take j).length<=1000:=by rw[Xo];omega
  refine⟨Int,zM,[y],rfl,wb3 ?_⟩;refine⟨[y],rfl,Ob.mk ⟨by show((((zaI s p).take j).length:Int)+1)*8<=_;omega,by rw[XZ];omega,dC,λx d=>by rw[Xu.1 d];rfl⟩ ?_⟩;exact zt [0,3] ⟨rfl,aR (by rw[Xm,f];rfl),tV⟩
 exact λ_=>z6 X9
def zEz{a b:LV}{y:Int}(c:a[i]?=some x)(d:b[i]?=some y)(h:a.take i=b.take i):a.take (i+1)=b.take (i+1)↔x=y:=by
 rw[Xm,Xm,c,d,h];simp
def zi1(a b:LV):CX 10 [.sl zM a,.sl zM b] (pr (a=b)):=by
 refine zc func10 λm=>?_;intro n;refine⟨λh=>zd λk=>h (by rw[k]),λh=>?_⟩;have h:¬¬(a.length:Int)=b.length:=h;refine⟨Nat,λi=>⟨[(5,i64 i),(1,.sl zM b),(0,.sl zM a)],[],0,26,0⟩,λi=>i<=a.length/\a.take i=b.take i,λi=>a.length-i,0,⟨Xh _,rfl⟩,zC [],?_⟩
 rintro i ⟨hi,d⟩
 intro o;refine⟨λg:(i:Int)<a.length=>?_,λg:¬(i:Int)<a.length=>?_⟩
 .refine wc<|wb λx f=>wb λy j=>?_;have e:=zEz f j d;refine⟨λc=>zd λk=>c (e.1 (by rw[k])),λc=>?_⟩;exact wa<|⟨i+1,⟨oM,e.2 (Xa.1 c)⟩,zC [],oN⟩
 rw[Xi oM,Xi oM]at d;exact zH d
def cN(id k d op mode:Int)(pa:SV)(rule:Int)(f:SV):LR:=
 i64 id::i64 k::i64 d::(afE idA++([nS,i64 0,u8 op,i64 mode,bl false,bl false,pa,i64 rule,f]++zBT))
def nN(id k d op mode:Int)(p:LX)(rule:Int)(f:LY):Nd:={ zNd with id:=id,k:=k,d:=d,t:=idA,op:=op,mode:=mode,path:=p,rule:=rule,fill:=f }
variable{mode:Int}{rule:Int}{pa:SV}
def zCe{id k d op:Int}{f:SV}{p:LX}{fl:LY}(c:LE pa (.sl sgE p))(a:LE f (.sl yG fl)):LEs (cN id k d op mode pa rule f) (ndE (nN id k d op mode p rule fl)):=
 .C (.C (.C (LEs.append .refl (.cons zD (.C (.C (.C (.cons (zd λh=>absurd (show false=true from h) dC) (.cons (zd λh=>absurd (show false=true from h) dC) (.cons c (.C (.cons a zEm))))))))))))
def zFt{id k d op:Int}(f g:SV)(j:Nat)(s':SV)(h:(cN id k d op mode pa rule g)[j]?=some s'):∃s,(cN id k d op mode pa rule f)[j]?=some s/\(s'=s∨(s=f/\s'=g)):=by
 have e:cN id k d op mode pa rule g=(cN id k d op mode pa rule f).set 35 g:=rfl;have a:(cN id k d op mode pa rule f).length=47:=rfl;rw[e,KE]at h
 by_cases c:35=j
 .subst c;rw[Xe rfl,Xe (by rw[a];decide)]at h;exact⟨f,rfl,.inr ⟨rfl,(Xl h).symm⟩⟩
 rw[Xc c]at h;exact⟨s',h,.inl rfl⟩
abbrev box1:LX:=za1 0 0 1 1
def pgH:Sc:=⟨4,4,⟨0,0,0,0⟩,[nN 7 2 0 0 0 box1 1 [za2 1],nN 3 1 0 9 1 [] 0 [],nN 5 2 1 0 0 box1 2 [za2 1]]⟩
def zoz(f:SV):LN:=[cN 7 2 0 0 0 (.sl sgE box1) 1 f,cN 3 1 0 9 1 nS 0 nS,cN 5 2 1 0 0 (.sl sgE box1) 2 f]
def zoA(f:SV):∀x∈zoz f,x.length=47:=λx a=>by
 simp only[zoz,XH,XV,or_false]at a
 rcases a with rfl|rfl|rfl <;> rfl
def zEA:CG0 23 [] [] (.agg (scO pgH 0)) [(0,nArr pgH.ns)]:=by
 refine zfw tok mix func23 rfl rfl rfl<|wg (zjn 0 0 1 1)<|⟨Unit,uE,[()],rfl,wb0 ?_⟩;refine wg za6<|wg za6<|wg za6<|⟨zoz (.own 1),rfl,Ob.mk ⟨rfl,dC,dC,dC,zoA _⟩ ?_⟩;have pf:LE (.sl uE [()]) (.sl yG [za2 1]):=zA8 (e:=uE) (g:=yG) (λ_=>za2 1) (xs:=[()]) λ_ _=>LEs.d zG4 rfl
 refine⟨_,((zc0 (sz0:=47) (T0:=66) 1 2 (enc:=uE) (ys:=[()]) (xs:=zoz (.own 1)) rfl rfl (xs':=zoz (.sl uE [()])) rfl (zoA _) (λi j x' s' a h=>?_)).trans
  (zeV 2 (xs:=zoz (.sl uE [()])) (ys:=pgH.ns.map ndE) rfl (.cons (zCe .refl pf) (.cons (zCe zD zD) (.cons (zCe .refl pf) .nil))))).trans (zgR 2 ndE pgH.ns rfl (λ_ _=>rfl)),some 2,?_,rfl,λ_ _=>rfl⟩
 .match i,a with
  |0,a=>cases a;obtain⟨s,c,f⟩:=zFt (.own 1) _ j s' h;exact⟨_,s,rfl,c,f⟩
  |1,a=>cases a;exact⟨_,s',rfl,h,.inl rfl⟩
  |2,a=>cases a;obtain⟨s,c,f⟩:=zFt (.own 1) _ j s' h;exact⟨_,s,rfl,c,f⟩
  |i+3,a=>cases a
 exact zzc (.cons (zbv rfl) (.cons (zbv rfl) (.cons (zbv rfl) (.cons (zbv rfl) (.cons (zbv rfl) (.cons (zbv rfl) (.cons (.own 2 rfl) .nil)))))))
def zEB:CX 23 [] (wq pgH):=zEA.plain rfl
def bxK(s:Sc)(k:Nat):Rc:=if ndK s k≠1 then zan s k else qp
def bxN(s:Sc)(n:Nat):List Rc:=(List.range s.ns.length).map λk=>if k<n then bxK s k else qp
def arN(s:Sc):Nat->Rc
 |0=>qp
 |n+1=>if ndK s n≠1 then zbR (arN s n) (zan s n) else arN s n
def enN(b:List Rc)(n:Nat):LV:=((List.range n).filter λk=>decide (¬(b.getD k qp).mt)).map λk:Nat=>(k:Int)
def zdu(s:Sc)(n:Nat):(bxN s n).length=s.ns.length:=by unfold bxN;rw[Xw,Ki]
def zmw{s:Sc}{n k:Nat}(h:k<s.ns.length):(bxN s n)[k]?=some (if k<n then bxK s k else qp):=by
 unfold bxN;rw[XD,KQ h];rfl
def zEC{s:Sc}{n:Nat}(h:n<s.ns.length)(d:ndK s n≠1):(bxN s n).set n (zan s n)=bxN s (n+1):=by
 refine Kw λj=>?_
 by_cases a:j<s.ns.length
 .rw[KE,zmw a,zmw a,zdu]
  by_cases c:n=j
  .subst c;rw[Xe rfl,Xe h,Xe oM];unfold bxK;rw[Xe d]
  rw[Xc c]
  by_cases q:j<n
  .rw[Xe q,Xe oM]
  rw[Xc q,Xc oM]
 rw[XG (by rw[XS,zdu];omega),XG (by rw[zdu];omega)]
def zCf{s:Sc}{n:Nat}(a:¬ndK s n≠1):bxN s (n+1)=bxN s n:=by
 unfold bxN;refine KR λk _=>?_
 by_cases c:k=n
 .subst c;rw[Xe oM,Xc oM];unfold bxK;rw[Xc a]
 by_cases q:k<n
 .rw[Xe oM,Xe q]
 rw[Xc oM,Xc q]
variable{b:List Rc}
def zmx{n:Nat}(h:¬(b.getD n qp).mt):enN b (n+1)=enN b n++[(n:Int)]:=by
 unfold enN;rw[KC,Kk,XA,KA,Xe (decide_eq_true h)];rfl
def zCg{n:Nat}(h:(b.getD n qp).mt):enN b (n+1)=enN b n:=by
 unfold enN;rw[KC,Kk,XA,KA,Xc (by simpa using h)];exact XC _
def zCh(b:List Rc)(n:Nat):(enN b n).length<=n:=by
 unfold enN;rw[Xw];have:=Qb (λk=>decide (¬(b.getD k qp).mt)) (List.range n)
 rwa [Ki]at this
def quE(a:Rc)(c:SV):LR:=rcE a++[c,nS]
end Go.Gs
