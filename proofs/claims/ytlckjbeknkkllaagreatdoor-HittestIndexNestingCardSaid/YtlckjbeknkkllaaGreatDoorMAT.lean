/- The boxes of nodes, the program's. -/
import Derived.Test.YtlckjbeknkkllaaGreatDoorMAS
import Derived.Test.YtlckjbeknkkllaaGreatDoorMAQ
set_option maxRecDepth 100000
set_option maxHeartbeats 8000000
set_option linter.all false
namespace Go.Gs
open Proofs.Tryz
open Go.Proofs
def upI(n:Int):Int:=(n+256-1)/2^8
def p_up(n:Int)(h: -1048576<=n/\n<=1048576):CX 115 [i64 n] (i64 (upI n)):=by
 refine zd func115 ?_;(iterate 2 refine wa ?_);exact Ob.mk dC .refl
def zgj(rs:LN):Rc:=⟨(loR rs).x/2^8,(loR rs).y/2^8,upI (hiR rs).x,upI (hiR rs).y⟩
def zhc(rs:LN):Rc:=if¬zds rs then k8 else if (zgj rs).x1<=(zgj rs).x0∨(zgj rs).y1<=(zgj rs).y0 then k8 else zgj rs
variable{rs:LN}
def zzO(h:zds rs):(-1048576<=(hiR rs).x/\(hiR rs).x<=1048576)/\ -1048576<=(hiR rs).y/\(hiR rs).y<=1048576:=by
 have:=(zkr h).2;unfold zm at this;omega
def zFb(rs:LN)(hc:kE rs):CX 73 [.sl zE rs] (wq (zhc rs)):=by
 refine zd func73<|wg (zE8 rs (by have:=hc.1;omega))<|⟨λh=>zaN (p:=k8) (Xe h).symm,λh=>?_⟩;have hi:=zzO (Xc.1 h);have e1:zhc rs=if (zgj rs).x1<=(zgj rs).x0∨(zgj rs).y1<=(zgj rs).y0 then k8 else zgj rs:=Xb h
 refine wd<|wb1<|wb1<|wg (p_up _ hi.1)<|wg (p_up _ hi.2)<|wh ?_;refine⟨λa=>zaN (p:=k8) (by rw[e1,Xe (.inl a)]),λa=>?_⟩;refine⟨λb=>zaN (p:=k8) (by rw[e1,Xe (.inr b)]),λb=>?_⟩;exact zaN (p:=zgj rs) (by rw[e1,Xb (λk=>k.elim a b)])
def zk3(a b:Rc):Rc:=if a.mt then b.canon else if b.mt then a else⟨min a.x0 b.x0,min a.y0 b.y0,max a.x1 b.x1,max a.y1 b.y1⟩
def zt9(a b:Rc):CX 47 [wq a,wq b] (wq (zk3 a b)):=by
 refine zd func47<|wg (zcf a)<|⟨λh=>?_,λh=>?_⟩
 ·exact wg (zd5 b)<|zaN (Xe h).symm
 refine wg (zcf b)<|⟨λk=>?_,λk=>?_⟩
 ·exact zaN (by unfold zk3;rw[Xb h,Xe k])
 exact zaN (p:=⟨min a.x0 b.x0,min a.y0 b.y0,max a.x1 b.x1,max a.y1 b.y1⟩) (by unfold zk3;rw[Xb h,Xb k])
def boxN(ls:List LN):Rc:=ls.foldl (λb l=>zk3 b (zhc l)) k8
def zbi(s:Sc)(i:Int):Rc:=boxN (ut s i)
def zDw(l:LN):LQ:=[.sl zE l]
def zFc(s:Sc)(i:Int)(ht:yi s):CX 46 [wr s,i64 i] (wq (zbi s i)):=by
 have hg:=zcj s i;refine zd func46<|wd<|wg (zt3 s i ht)<|wg (zt7 s i ht)<|wg (zzC s i ht)<|⟨LN,zDw,ut s i,rfl,wb0 ?_⟩;intro hl;refine wh<|⟨Nat,λn=>⟨[(19,i64 n),(18,i64 3),(17,.own 3),(5,.loc 2 0),(4,.loc 1 0)],[(3,.arr 104 zDw 1 (ut s i)),(2,.box 54 (rcE (boxN ((ut s i).take n)))),(1,.box 54 (rcE k8))],4,29,0⟩,λn=>n<=3,λn=>3-n,0,Xg _,?_,?_⟩
 ·exact zA [(1,some 1),(2,some 2),(3,some 3)]
 rintro n hn
 have hn:n<=3:=hn;refine⟨λg:(n:Int)<3=>?_,λg=>?_⟩
 ·have r1:0<=(n:Int)/\(n:Int)<(ut s i).length:=⟨oM,g⟩;refine Ob.mk r1<|Ob.mk r1 λl(hx:(ut s i)[n]?=some l)=>?_;refine wd<|wg (zFb l (hg l (Xf hx)))<|wg (zt9 (boxN ((ut s i).take n)) (zhc l))<|wh<|wa ?_
  exact⟨n+1,by show n+1<=3;omega,zhw [(1,some 1),(2,some 2),(3,some 3)] ⟨rfl,bR rcE (by unfold boxN;rw[Xm,hx,Qg];rfl),rfl,tV⟩,oN⟩
 obtain rfl:n=3:=by have g:¬(n:Int)<3:=g;omega
 exact .refl
def w_cnt(a b p:Pt)(n:Int)(hn: -1000000<=n/\n<=1000000):
  CG0 126 [wk a,wk b,.ptr (ptE p),.loc 0 0] [(0,.box 3 [i64 n])] (.tup []) [(0,.box 3 [i64 (n+jL a b p)])]:=by
 refine yA tok mix func126 rfl rfl rfl rfl rfl ?_;have fin:∀{d:Int},jL a b p=d->some (Mem.box 3 [i64 (n+d)])=some (Mem.box 3 [i64 (n+jL a b p)]):=λh=>by rw[h]
 refine⟨λh1=>?_,λh1=>?_⟩;refine⟨λh2=>?_,λh2=>?_⟩;refine wg (zzQ a b p)<|⟨λh3=>Ar.fit oM ⟨fin (zCq h1 h2 h3),.refl⟩,λh3=>?_⟩
 all_goals
  have h0:¬(a.y<=p.y/\p.y<b.y/\0<sgn (orP a b p)):=λh=>by first|exact h3 h.2.2|exact h2 h.2.1|exact h1 h.1
  have sec:¬(b.y<=p.y/\p.y<a.y/\0<sgn (orP b a p))->some (Mem.box 3 [i64 n])=some (Mem.box 3 [i64 (n+jL a b p)]):=λk=>by rw[←fin (zCs h0 k),JS]
  refine⟨λk1=>?_,λk1=>⟨sec λh=>k1 h.1,.refl⟩⟩;refine⟨λk2=>?_,λk2=>⟨sec λh=>k2 h.2.1,.refl⟩⟩;exact wg (zzQ b a p)<|⟨λk3=>Ar.fit oM ⟨fin (zCr h0 k1 k2 k3),.refl⟩,λk3=>⟨sec λh=>k3 h.2.2,.refl⟩⟩
def boxI{T:TypeId}{m n:Int}(h:m=n):some (Mem.box T [i64 m])=some (Mem.box T [i64 n]):=by rw[h]
def zCt(r:LR)(p:Pt)(c:Int)(hc: -4096<=c/\c<=4096)(hr:r.length<=4096):
  CG0 128 [.sl ptE r,.fn 126 [.loc 0 0,.loc 1 0]] [(0,.box 28 (ptE p)),(1,.box 3 [i64 c])] (.tup [])
   [(0,.box 28 (ptE p)),(1,.box 3 [i64 (c+yx r p r.length)])]:=by
 refine u6 tok mix func128 rfl rfl rfl λhl1=>?_
 refine⟨Nat,λi=>⟨[(8,i64 i),(7,i64 r.length),(6,.sl ptE r),(0,.sl ptE r),(1,.fn 126 [.loc 0 0,.loc 1 0])],[(0,.box 28 (ptE p)),(1,.box 3 [i64 (c+yx r p i)])],2,25,2⟩,
  λi=>i<=r.length,λi=>r.length-i,0,Xg _,zt [0,1] ⟨rfl,boxI (JS c).symm,tV⟩,?_⟩
 rintro i h1
 have h1:i<=r.length:=h1;refine⟨λg:(i:Int)<r.length=>?_,λg=>?_⟩
 ·refine wb λx(hx:r[i]?=some x)=>?_;refine wd<|wa λhl2=>Dv.pos ⟨oM,oM⟩ ?_;have q1:=K2 ((i:Int)+1) (b:=(r.length:Int)) oM;have q2:=KY ((i:Int)+1) (b:=(r.length:Int)) oM;refine Ob.mk ⟨q1,q2⟩ λy hy=>?_;have hw:=zhV r p i;refine zb.hand 1 _ _ _ rfl (w_cnt x y p (c+yx r p i) oM) rfl rfl rfl rfl<|wh<|wa ?_
  exact⟨i+1,by show i+1<=r.length;omega,zt [0,1] ⟨rfl,boxI (by rw[zwh hx hy oM,Int.add_assoc]),tV⟩,oN⟩
 obtain rfl:i=r.length:=by have g:¬(i:Int)<r.length:=g;omega
 exact⟨_,.refl,rfl,.refl⟩
variable{p:Pt}
def zCu(h:¬zm p):0=zdu rs p:=(Xb λk=>h k.2).symm
def zFd(rs:LN)(p:Pt)(hr:kE rs):CX 91 [.sl zE rs,wk p] (i64 (zdu rs p)):=by
 have hr1:qx rs<=4096:=by have:=hr.1;omega
 refine zd func91<|wg (kC p)<|⟨λh=>zh (zCu h),λh=>?_⟩;refine wg (zfS rs λr hm=>by have:=zbC hm;omega)<|⟨λk=>absurd hr k,λ_=>?_⟩;intro hl
 refine⟨Nat,λi=>⟨[(20,i64 i),(19,i64 rs.length),(18,.sl zE rs),(6,.fn 126 [.loc 0 0,.loc 1 0]),(5,.loc 1 0)],[(0,.box 28 (ptE p)),(1,.box 3 [i64 (za7 rs p i)])],2,29,0⟩,
  λi=>i<=rs.length,λi=>rs.length-i,0,Xg _,zi [0,1],?_⟩
 rintro i h1
 have h1:i<=rs.length:=h1;refine⟨λg:(i:Int)<rs.length=>?_,λg=>?_⟩
 ·refine wb λr(hx:rs[i]?=some r)=>?_;have hw:=zdt rs p i h1;have h2:=zb7 rs i;have h3:=zbC (Xf hx)
  refine zb.give [0,1] 0 [.sl ptE r,.fn 126 [.loc 0 0,.loc 1 0]] [(0,.box 28 (ptE p)),(1,.box 3 [i64 (za7 rs p i)])]
   [(0,.box 28 (ptE p)),(1,.box 3 [i64 (za7 rs p i+yx r p r.length)])] (.tup []) (zCt r p (za7 rs p i) oM oM) LEs.refl rfl rfl rfl ⟨⟨_,rfl,rfl,rfl⟩,⟨_,rfl,rfl,rfl⟩,tV⟩ rfl ⟨⟨rfl,rfl⟩,⟨rfl,rfl⟩,tV⟩ ?_
  exact wa<|⟨i+1,by show i+1<=rs.length;omega,zt [0,1] ⟨rfl,boxI (zck hx).symm,tV⟩,oN⟩
 obtain rfl:i=rs.length:=by have g:¬(i:Int)<rs.length:=g;omega
 exact zh (Xe ⟨hr,Xc.1 h⟩).symm
def zCv{n:Int}(h: -9223372036854775808<=n/\n<=9223372036854775807):uX .and .i64 n (-1)=n:=by
 show IntKind.i64.wrap ((BitVec.ofInt 64 n&&&BitVec.ofInt 64 (-1)).toNat:Nat)=_;rw[show BitVec.ofInt 64 (-1)=BitVec.allOnes 64 from by decide,BitVec.and_allOnes,Qb];simp only[IntKind.wrap,IntKind.bits,IntKind.signed];simp;omega
def zzR(n:Int):uX .and .i64 n 0=0:=by
 show IntKind.i64.wrap ((BitVec.ofInt 64 n&&&BitVec.ofInt 64 0).toNat:Nat)=_;rw[show BitVec.ofInt 64 0=0#64 from by decide,BitVec.and_zero];decide
def zCw(n rule:Int)(h: -4096<=n/\n<=4096):CX 90 [i64 n,i64 rule] (pr (zbj n rule)):=by
 refine zd func90 ?_;have e1:=zAS (q:=n) 1 dC;refine⟨λk=>absurd k dC,λ_=>?_⟩;refine⟨λk=>?_,λk=>?_⟩
 ·refine⟨_,rfl,zr ?_⟩;rw[zCv oM];unfold zbj;omega
 refine⟨λk2=>?_,λk2=>?_⟩
 ·refine⟨_,rfl,zr ?_⟩;rw[show(1:Int)=2^1-1 from rfl,e1];unfold zbj;omega
 refine⟨_,rfl,zr ?_⟩;rw[zzR];unfold zbj;omega
def zgl(rs:LN)(rule:Int)(p:Pt)(hr:kE rs):CX 54 [.sl zE rs,i64 rule,wk p] (pr (qQ rs rule p)):=by
 exact zd func54<|wg (zFd rs p hr)<|zb.to _ (zCw _ rule (zqs rs p)) rfl .refl
def dN(l:LV)(k:Nat):Int:=(zU l).getD k 0
variable{l:LV}
def zks{k:Nat}{n:Nd}(h:l[k]?=some n):dN l k=n.d:=by unfold dN;rw[Xn,vn h];rfl
def zkt{l:LV}{k:Nat}(h:k<l.length):(zU l)[k]?=some (dN l k):=by
 rw[zks (Xa h)];exact vn (Xa h)
def zmt{ds:LU}(h:ze7 ds){b:Nat}{x e:Int}(hb:ds[b]?=some x)(hx:x<=e):∀{k:Nat} {d:Int},b<=k->ds[k]?=some d->e<d->∃j,b<=j/\j<k/\ds[j]?=some e
 |0,d,hk,hd,hl=>by
  obtain rfl:b=0:=oM;rw[hb]at hd;cases hd;omega
 |k+1,d,hk,hd,hl=>by
  obtain⟨a,ha⟩:∃a,ds[k]?=some a:=⟨_,Xa (by have:=(Xd.1 hd).1;omega)⟩;have hs:=h.2.2 k a d ha hd
  by_cases hb':b=k+1
  ·subst hb';rw[hb]at hd;cases hd;omega
  by_cases c:a=e
  ·exact⟨k,oM,oM,by rw[ha,c]⟩
  obtain⟨j,h1,h2,h3⟩:=zmt h hb hx oM ha oM;exact⟨j,h1,oM,h3⟩
def zku(l:LV)(i e:Nat):Prop:=i<e/\e<=l.length/\(∀j,i<j->j<e->dN l i<dN l j)/\(e<l.length->dN l e<=dN l i)
def zua(l:LV)(i:Nat):∀(m k:Nat),k+m=l.length->i<k->(∀j,i<j->j<k->dN l i<dN l j)->∃e,zku l i e
 |0,k,h,hi,hd=>⟨k,hi,oM,hd,λq=>by omega⟩
 |m+1,k,h,hi,hd=>by
  by_cases c:dN l i<dN l k
  ·refine zua l i m (k+1) oM oM λj h1 h2=>?_
   by_cases e:j=k
   ·rw[e];exact c
   exact hd j h1 oM
  exact⟨k,hi,oM,hd,λ_=>by omega⟩
def zso{i k:Nat}(hk:k<l.length)(h:yj (zU l) k=i):i<k/\dN l k=dN l i+1:=by
 have h0:=zbG (zU l) (dN l k-1) k;have e:yj (zU l) k=jX (zU l) (dN l k-1) k:=rfl;rw[e]at h;rw[h]at h0;have h1:=h0.2.2 oM;have h2:(zU l)[i]?=some (dN l k-1):=h1;have h3:i<k:=oM;rw[zkt oM]at h2;have:=Xl h2;exact⟨h3,oM⟩
variable{e:Nat}
def zCx{i k:Nat}(he:zku l i e)(h1:i<k)(h2:k<e):yj (zU l) k=i↔dN l k=dN l i+1:=by
 have hle:=he.2.1;refine⟨λh=>(zso oM h).2,λh=>?_⟩
 have ep:yj (zU l) k=jX (zU l) (dN l i) k:=by
  show jX (zU l) (dN l k-1) k=_;rw[h,Int.add_sub_cancel]
 have g:=zkp (d:=dN l i) h1 (zkt oM);have hl:=zbG (zU l) (dN l i) k;rw[ep];refine JJ (YH.1 λq=>?_) g;obtain⟨j,hj⟩:=Qr (show 0<=jX (zU l) (dN l i) k by omega);have h3:=hl.2.2 oM;rw[hj]at h3 q hl;have h3:(zU l)[j]?=some (dN l i):=h3;have hd:=he.2.2.1 j oM oM;rw[zkt oM]at h3;have:=Xl h3;omega
def zCy(hs:ze7 (zU l)){i k:Nat}(he:zku l i e)(h1:e<=k)(h2:k<l.length):yj (zU l) k≠i:=λh=>by
 obtain⟨a,b⟩:=zso h2 h;have h3:=he.2.2.2 oM;obtain⟨j,j1,j2,j3⟩:=zmt hs (zkt (l:=l) (k:=e) oM) h3 h1 (zkt h2) oM;have g:=zkp j2 j3
 have ep:yj (zU l) k=jX (zU l) (dN l i) k:=by
  show jX (zU l) (dN l k-1) k=_;rw[b,Int.add_sub_cancel]
 have:=he.1;omega
def ze9(l:LV)(i n:Nat):LU:=((List.range n).filter λk=>decide (yj (zU l) k=i)).map λk:Nat=>(k:Int)
def zCz{i n:Nat}(h:yj (zU l) n=i):ze9 l i (n+1)=ze9 l i n++[(n:Int)]:=by
 unfold ze9;rw[KI,Ke,XG];simp[h]
def zsp{i n:Nat}(h:¬yj (zU l) n=i):ze9 l i (n+1)=ze9 l i n:=by
 unfold ze9;rw[KI,Ke,XG];simp[h]
def zub(l:LV)(i:Nat):∀n,n<=i+1->ze9 l i n=[]
 |0,_=>rfl
 |n+1,h=>by
  rw[zsp λk=>by have:=zci (zU l) n;omega];exact zub l i n oM
def zqu{l:LV}(hs:ze7 (zU l)){i e:Nat}(he:zku l i e):∀m,e+m<=l.length->ze9 l i (e+m)=ze9 l i e
 |0,_=>rfl
 |m+1,h=>by
  rw[←KE,zsp (zCy hs he oM oM)];exact zqu hs he m oM
def zCA(l:LV)(i n:Nat):(ze9 l i n).length<=n:=by
 unfold ze9;rw[Xz];have:=K6 (λk=>decide (yj (zU l) k=i)) (List.range n)
 rwa [Kc]at this
def zeh(s:Sc)(i:Nat):LU:=ze9 s.ns i s.ns.length
def zFe{s:Sc}{i:Nat}{k:Int}(h:k∈zeh s i):∃m:Nat,k=m/\m<s.ns.length/\dN s.ns m=dN s.ns i+1:=by
 unfold zeh ze9 at h;obtain⟨m,hm,rfl⟩:=XL.1 h;obtain⟨h1,h2⟩:=QB.1 hm;have h1:=XT.1 h1;exact⟨m,rfl,h1,(zso h1 (of_decide_eq_true h2)).2⟩
def zCB{α:Type _}{xs:List α}(h:xs=[]):Nat.beq xs.length 0=true:=by rw[h];rfl
def s_end(l:LV)(i e:Nat)(h:zku l i e)(hl:l.length<=64):CX 96 [.sl ndE l,i64 i] (i64 e):=by
 obtain⟨h1,h2,h3,h4⟩:=h;refine zd func96<|wa<|⟨Nat,λk=>⟨[(5,i64 k),(1,i64 i),(0,.sl ndE l)],[],0,28,0⟩,λk=>i<k/\k<=e,λk=>e-k,i+1,⟨oM,oM⟩,?_,?_⟩
 ·exact zA []
 rintro k ⟨hk,he⟩
 refine wc λhl0=>?_;refine⟨λg:(k:Int)<l.length=>?_,λg:¬(k:Int)<l.length=>?_⟩
 ·refine wb λx hx=>?_;have ex:=zks (show l[k]?=some x from hx);refine wb λy hy=>?_;have ey:=zks (show l[i]?=some y from hy);refine⟨λc=>?_,λc:¬y.d<x.d=>?_⟩
  ·have c:y.d<x.d:=c
   have hlt:k<e:=Nat.lt_of_le_of_ne he λq=>by
    subst q;have:=h4 oM;omega
   exact wa<|⟨k+1,⟨oM,hlt⟩,zA [],oN⟩
  refine zh (Xj Int.ofNat (Nat.le_antisymm he (Nat.not_lt.1 λq=>?_)));have:=h3 k hk q;omega
 exact zh oM
def zFf(s:Sc)(i:Nat)(ht:zeA s)(hi:inS s i):CX 58 [wr s,i64 i] (.sl zN (zeh s i)):=by
 have hs:=za5 hi.1;have hl:=yY hi.1;have hlt:i<s.ns.length:=by have:=hi.2.2;omega
 obtain⟨n,hn⟩:∃n,s.ns[i]?=some n:=⟨_,Xa hlt⟩;have en:=zks hn;have hdp:=ur hi.1 n (Xf hn);obtain⟨e,he⟩:=zua s.ns i (s.ns.length-(i+1)) (i+1) oM oM λj h1 h2=>oM
 have he1:=he.1;have he2:=he.2.1;refine zd func58<|Br.mk (λ_=>?_) (λk=>by have k:¬¬(i:Int)= -1:=k;omega);refine wg (zzp s i ht)<|⟨λk=>absurd hi k,λ_=>?_⟩;refine wg (zio s ht)<|⟨λk=>absurd hi.1 k,λ_=>?_⟩;refine wc λhl0=>?_;refine⟨λ_=>?_,λk=>by have k:¬(0:Int)<=i:=k;omega⟩;refine wc<|wb λx hx=>?_;rw[show x=n from Xl ((show s.ns[i]?=some x from hx).symm.trans hn)];(iterate 2 refine wa ?_)
 refine wg (s_end s.ns i e he hl)<|⟨Nat,λk=>⟨[(9,i64 k),(8,.own 1),(7,i64 e),(5,i64 (n.d+1)),(2,.loc 0 0)],[(1,.arr 3 zN 1 (ze9 s.ns i k)),(0,.box 26 (scE s))],2,60,0⟩,λk=>i<k/\k<=e,λk=>e-k,i+1,⟨oM,oM⟩,?_,?_⟩
 ·exact zhw [(0,some 0),(1,none)] ⟨zCB (zub s.ns i (i+1) (Xi _)),rfl,tV⟩
 rintro k ⟨hk,hke⟩
 refine⟨λg:(k:Int)<e=>?_,λg=>?_⟩
 ·refine wb λx hx=>?_;have ex:=zks (show s.ns[k]?=some x from hx);have hp:=zCx he hk (show k<e by omega);have hkl:=zCA s.ns i k;refine⟨λc:x.d=n.d+1=>?_,λc:¬x.d=n.d+1=>?_⟩
  ·refine⟨Int,zN,[(k:Int)],rfl,wb3 ?_⟩;refine⟨[(k:Int)],rfl,Ob.mk ⟨by show(((ze9 s.ns i k).length:Int)+1)*8<=_;omega,by rw[Kk];omega,dC,λx hx=>by rw[Xu.1 hx];rfl⟩ ?_⟩;exact wa<|⟨k+1,⟨oM,oM⟩,zt [0,3] ⟨aR (zCz (hp.2 oM)).symm,rfl,tV⟩,oN⟩
  exact wa<|⟨k+1,⟨oM,oM⟩,zt [0,1] ⟨aR (zsp λq=>by have:=hp.1 q;omega).symm,rfl,tV⟩,oN⟩
 obtain rfl:k=e:=by have g:¬(k:Int)<e:=g;omega
 refine kM ?_;have:=zqu hs he (s.ns.length-k) oM;rw[show k+(s.ns.length-k)=s.ns.length by omega]at this;exact this.symm
def zDx(s:Sc)(i:Int)(ht:zeA s):CX 37 [wr s,i64 i] (.sl zN (jD s i)):=by
 refine zd func37<|wg (zzp s i ht)<|⟨λh=>by rw[show jD s i=[] from Xb h];exact zw,λh=>?_⟩;have h:inS s i:=Xc.1 h;obtain⟨i,rfl⟩:∃k:Nat,i=(k:Int):=⟨i.toNat,by have:=h.2.1;omega⟩;have hl:=yY h.1;have hdp:=ur h.1;have hlt:i<s.ns.length:=by have:=h.2.2;omega
 have ea:jD s i=zsk ((za6 (zU s.ns) i).reverse):=Xe h
 refine⟨Int×LU,λz=>⟨[(6,i64 z.1),(5,.own 1),(2,.loc 0 0)],[(1,.arr 3 zN 1 z.2),(0,.box 26 (scE s))],2,23,0⟩,
  λz=>(-1<=z.1/\z.1<s.ns.length/\z.2.length<=100)/\zsk ((za6 (zU s.ns) z.1).reverse)++z.2=jD s i/\z.1+z.2.length<=64,λz=>(z.1+1).toNat,(i,[]),⟨⟨oN,oN,Xg _⟩,by rw[ea,XM],by dsimp only;rw[Xt];omega⟩,zA [(0,some 0),(1,none)],?_⟩
 rintro⟨k,out⟩ ⟨⟨k1,k2,k3⟩,k4,k5⟩
 dsimp only at k1 k2 k3 k4 k5 ⊢;refine⟨λg:0<=k=>?_,λg:¬0<=k=>?_⟩
 ·obtain⟨k,rfl⟩:∃q:Nat,k=(q:Int):=⟨k.toNat,oM⟩;obtain⟨y,hy⟩:∃y,s.ns[k]?=some y:=⟨_,Xa oM⟩;have hp:=zci (zU s.ns) k;refine⟨Int,zN,[(k:Int)],rfl,wb3 ?_⟩;refine⟨out,rfl,Ob.mk ⟨by show((([(k:Int)]:LU).length:Int)+(out.length:Int))*8<=_;rw[Kk];omega,by rw[Kk];omega,dC,λ_ _=>rfl⟩ ?_⟩;refine wg (zzq s.ns k y hy hdp hl) ?_
  refine⟨(yj (zU s.ns) k,(k:Int)::out),⟨⟨hp.1,oN,by dsimp only;rw[Xq];omega⟩,?_,by dsimp only;rw[Xq];omega⟩,zi [0,3],oN⟩;dsimp only;rw[←k4,jR (zU s.ns) k,List.reverse_cons];unfold zsk;rw[XG,XS];rfl
 rw[vo oM]at k4;exact kM k4
def zhd(s:Sc)(p:Pt)(k:Int):Prop:=0<(zG s k).clip.length->qQ (zkh s k) (zG s k).cr p
instance (s:Sc) (p:Pt) (k:Int):Decidable (zhd s p k):=inferInstanceAs (Decidable (_->_))
def jS(s:Sc)(i:Int)(p:Pt):Prop:=inS s i/\zm p/\∀k∈jD s i,zhd s p k
instance (s:Sc) (i:Int) (p:Pt):Decidable (jS s i p):=wi
def zwi(s:Sc)(k:Int):kE (zkh s k):=by
 unfold zkh;split
 ·exact zai
 exact zd6 _ _
variable{i:Int}
def zn2{s:Sc}{k:Int}(h:k∈jD s i):inS s i/\inS s k:=by
 unfold jD at h
 split at h
 ·rename_i hi;obtain⟨a,ha,rfl⟩:=XL.1 h;obtain⟨i,rfl⟩:∃q:Nat,i=(q:Int):=⟨i.toNat,by have:=hi.2.1;omega⟩;have:=zkq (i+1) i oM a (List.mem_reverse.1 ha);exact⟨hi,hi.1,oM,by have:=hi.2.2;omega⟩
 cases h
def zFg{s:Sc}(h:inS s i):(jD s i).length≠0:=by
 obtain⟨i,rfl⟩:∃q:Nat,i=(q:Int):=⟨i.toNat,by have:=h.2.1;omega⟩;rw[show jD s i=_ from Xe h,jR];simp
def zqv{s:Sc}{k:Int}(h:inS s k){n:Nd}(hn:s.ns[k.toNat]?=some n):n=zG s k:=(zn0 h hn).symm
variable{j:Nat}{x:Int}
def zkv{l:LU}{P:Int->Prop}(hx:l[j]?=some x)(h:∀k∈l.take j,P k)(hp:P x):∀k∈l.take (j+1),P k:=λk hk=>by
 rw[Xm,hx]at hk
 rcases Xr.1 hk with q|q
 ·exact h k q
 rw[show k=x by simpa using q];exact hp
def zCC(s:Sc)(i:Int)(p:Pt)(ht:yi s):CX 53 [wr s,i64 i,wk p] (pr (jS s i p)):=by
 refine zd func53<|wg (zDx s i ht.tame) λhl0=>?_;refine⟨λh=>zc λk=>zFg k.1 (by have h:((jD s i).length:Int)=0:=h;omega),λh=>?_⟩;have h:¬((jD s i).length:Int)=0:=h;refine wg (kC p)<|⟨λh=>zc λk=>h k.2.1,λh1=>?_⟩;have h1:zm p:=Xc.1 h1;intro hl
 refine⟨Nat,λj=>⟨[(25,i64 j),(24,i64 ((jD s i).length:Int)),(23,.sl zN (jD s i)),(5,.loc 1 0),(3,.loc 0 0)],[(1,.box 28 (ptE p)),(0,.box 26 (scE s))],2,49,0⟩,
  λj=>j<=(jD s i).length/\∀k∈(jD s i).take j,zhd s p k,λj=>(jD s i).length-j,0,⟨Xg _,λk hk=>by cases hk⟩,zi [0,1],?_⟩
 rintro j ⟨j1,j2⟩
 refine⟨λg:(j:Int)<(jD s i).length=>?_,λg:¬(j:Int)<(jD s i).length=>?_⟩
 ·refine wb λk(hk:(jD s i)[j]?=some k)=>?_;have hm:=Xf hk;obtain⟨_,hi⟩:=zn2 hm;refine wg (zCk s k ht)<|wc<|Br.mk (λc=>?_) (λc=>?_)
  ·refine Ob.mk hi.2 λn hn=>?_;rw[zqv hi hn];refine wg (zgl _ _ p (zwi s k))<|⟨λq=>zc λz=>q (z.2.2 k hm c),λq=>?_⟩;exact wa<|⟨j+1,⟨oM,zkv hk j2 λ_=>Xc.1 q⟩,zi [0,1],oN⟩
  exact wa<|⟨j+1,⟨oM,zkv hk j2 λq=>absurd q c⟩,zi [0,1],oN⟩
 rw[Xk oM]at j2;refine zI ⟨?_,h1,j2⟩;obtain⟨k,hk⟩:∃k,k∈jD s i:=Q4 _ λq=>h (by rw[q];rfl)
 exact(zn2 hk).1
def onB(s:Sc)(p:Pt):Nat->Int->Bool
 |0,_=>false
 |f+1,i=>decide (jS s i p)&&(if (zG s i).k=2 then decide (qQ (vY s i) (zG s i).rule p)||decide (qQ (zaP s i) 1 p)
   else if (zG s i).k=3 then decide (qQ (zg6 s i) 1 p) else(zeh s i.toNat).any (onB s p f))
def zuc(s:Sc)(p:Pt)(f:Nat)(i:Int):onB s p (f+1) i=(decide (jS s i p)&&(if (zG s i).k=2 then decide (qQ (vY s i) (zG s i).rule p)||decide (qQ (zaP s i) 1 p)
  else if (zG s i).k=3 then decide (qQ (zg6 s i) 1 p) else(zeh s i.toNat).any (onB s p f))):=rfl
def zd7{s:Sc}{p:Pt}{f:Nat}{i:Int}(h:¬jS s i p):¬onB s p (f+1) i=true:=by
 rw[zuc,decide_eq_false h];simp
def zkw{s:Sc}{p:Pt}{f:Nat}{i:Int}(h:jS s i p)(k:(zG s i).k=2):onB s p (f+1) i=true↔qQ (vY s i) (zG s i).rule p∨qQ (zaP s i) 1 p:=by
 rw[zuc,decide_eq_true h,Xe k];simp
def zud{s:Sc}{p:Pt}{f:Nat}{i:Int}(h:jS s i p)(k2:¬(zG s i).k=2)(k:(zG s i).k=3):onB s p (f+1) i=true↔qQ (zg6 s i) 1 p:=by
 rw[zuc,decide_eq_true h,Xb k2,Xe k];simp
def onB_1{s:Sc}{p:Pt}{f:Nat}{i:Int}(h:jS s i p)(k2:¬(zG s i).k=2)(k:¬(zG s i).k=3):onB s p (f+1) i=true↔∃j∈zeh s i.toNat,onB s p f j=true:=by
 rw[zuc,decide_eq_true h,Xb k2,Xb k];simp
def zsq(s:Sc)(i:Int):kE (vY s i):=zcj s i _ (by simp[ut])
def zsr(s:Sc)(i:Int):kE (zaP s i):=zcj s i _ (by simp[ut])
def zwj(s:Sc)(i:Int):kE (zg6 s i):=zcj s i _ (by simp[ut])
def g_on1(s:Sc)(p:Pt)(ht:yi s)(f:Nat)(i:Int)(ih:inS s i->∀k∈zeh s i.toNat,CX 33 [wr s,i64 k,wk p] (pr (onB s p f k=true))):
  CX 33 [wr s,i64 i,wk p] (pr (onB s p (f+1) i=true)):=by
 refine zd func33<|wg (zCC s i p ht)<|⟨λh=>zc (zd7 h),λh=>?_⟩;have h:jS s i p:=Xc.1 h;have hi:=h.1;refine Ob.mk hi.2 λn hn=>?_;rw[zqv hi hn];refine⟨λh2=>?_,λh2=>?_⟩
 ·refine wc<|wg (zt3 s i ht)<|wg (zgl _ _ p (zsq s i))<|⟨λc=>zI ((zkw h h2).2 (.inl c)),λc=>?_⟩;exact wg (zt7 s i ht)<|wg (zgl _ _ p (zsr s i))<|zr ⟨λq=>(zkw h h2).2 (.inr q),λq=>((zkw h h2).1 q).resolve_left c⟩
 refine⟨λh3=>?_,λh3=>?_⟩
 ·exact wc<|wg (zzC s i ht)<|wg (zgl _ _ p (zwj s i))<|zr (zud h h2 h3).symm
 have e:=onB_1 (f:=f) h h2 h3;obtain⟨i,rfl⟩:∃q:Nat,i=(q:Int):=⟨i.toNat,by have:=hi.2.1;omega⟩;refine wg (zFf s i ht.tame hi) λhl=>?_
 refine⟨Nat,λj=>⟨[(49,i64 j),(48,i64 ((zeh s i).length:Int)),(47,.sl zN (zeh s i)),(5,.loc 1 0),(3,.loc 0 0)],[(1,.box 28 (ptE p)),(0,.box 26 (scE s))],2,58,0⟩,
  λj=>j<=(zeh s i).length/\∀k∈(zeh s i).take j,¬onB s p f k=true,λj=>(zeh s i).length-j,0,⟨Xg _,λk hk=>by cases hk⟩,zi [0,1],?_⟩
 rintro j ⟨j1,j2⟩
 refine⟨λg:(j:Int)<(zeh s i).length=>?_,λg:¬(j:Int)<(zeh s i).length=>?_⟩
 ·refine wb λk(hk:(zeh s i)[j]?=some k)=>?_;have hm:=Xf hk;refine wg (ih hi k hm)<|⟨λc=>zI (e.2 ⟨k,hm,c⟩),λc=>?_⟩;exact wa<|⟨j+1,⟨oM,zkv hk j2 c⟩,zi [0,1],oN⟩
 rw[Xk oM]at j2;refine zc λq=>?_
 obtain⟨k,hm,c⟩:=e.1 q;exact j2 k hm c
def zzS{s:Sc}(hi:inS s i){k:Int}(hk:k∈zeh s i.toNat){f:Nat}(hf:8<=f+1+dN s.ns i.toNat):1<=f/\8<=f+dN s.ns k.toNat:=by
 obtain⟨m,rfl,hm,hd⟩:=zFe hk;have:=ur hi.1 _ (Xf (Xa hm));rw[←zks (Xa hm)]at this;rw[show((m:Int)).toNat=m from rfl];omega
def zDy(s:Sc)(p:Pt)(ht:yi s):∀(f:Nat) (i:Int),1<=f->(inS s i->8<=f+dN s.ns i.toNat)->CX 33 [wr s,i64 i,wk p] (pr (onB s p f i=true))
 |0,_,h,_=>absurd h dC
 |f+1,i,_,h=>g_on1 s p ht f i λhi k hk=>zDy s p ht f k (zzS hi hk (by have:=h hi;omega)).1 λ_=>(zzS hi hk (by have:=h hi;omega)).2
def onS(s:Sc)(p:Pt)(i:Int):Bool:=onB s p 8 i
def fuel8{s:Sc}(h:inS s i):8<=((8:Nat):Int)+dN s.ns i.toNat:=by
 obtain⟨n,hn⟩:=zdr h;rw[zks hn];have:=ur h.1 n (Xf hn);omega
def g_on(s:Sc)(p:Pt)(i:Int)(ht:yi s):CX 33 [wr s,i64 i,wk p] (pr (onS s p i=true)):=zDy s p ht 8 i dC fuel8
def zqw(f:SV->SV):∀(L:LP) (t:Nat),z6 (L.map λp=>(p.1,f p.2)) t=(z6 L t).map f
 |[],_=>rfl
 |(k,s)::r,t=>by
  rw[K8,zK,zK]
  by_cases h:k=t
  ·rw[Xe h,Xe h];rfl
  rw[Xb h,Xb h];exact zqw f r t
def zzU(n:Nat){σ:St}:Sub σ ⟨σ.L.map λp=>(p.1,frz (zH σ.M) n p.2),[],σ.nk,σ.nt,σ.n0⟩:=λE ρ a w hr=>by
 have hs:=hr.stp;refine⟨ρ,hr.size,hr.defers,λt s hl=>?_,kS hr.mem.kp λ_ _ h=>hr.mem.glc h,hr.fresh,⟨hs.os,hs.tape,hs.output,hs.size,hs.block,λb hb=>absurd hb zF,hs.rho⟩,hr.keep,hr.low⟩;have hl:z6 (σ.L.map λp=>(p.1,frz (zH σ.M) n p.2)) t=some s:=hl;rw[zqw (frz (zH σ.M) n)]at hl
 cases hk:z6 σ.L t with
 |none=>rw[hk]at hl;cases hl
 |some u=>
  rw[hk]at hl
  cases hl
  obtain⟨h1,h2⟩:=hr.regs t u hk;exact⟨h1,.d _ _ ((zlR (λk m h=>zn h) hr.mem n h2).less λb hb=>hb.resolve_right zF)⟩
def ndK(s:Sc)(i:Nat):Int:=match s.ns[i]? with
 |some n=>n.k
 |none=>0
def ndI(s:Sc)(i:Int):Int:=match s.ns[i.toNat]? with
 |some n=>n.id
 |none=>0
def zn3{s:Sc}{i:Nat}{n:Nd}(h:s.ns[i]?=some n):ndK s i=n.k:=by unfold ndK;rw[h]
def zfa{s:Sc}{n:Nd}(h:s.ns[i.toNat]?=some n):ndI s i=n.id:=by unfold ndI;rw[h]
def atL(s:Sc)(p:Pt):Nat->LU
 |0=>[]
 |n+1=>if ndK s n≠1/\onS s p n=true then(n:Int)::atL s p n else atL s p n
def atA(s:Sc)(p:Pt):LU:=atL s p s.ns.length
def qA(s:Sc)(p:Pt):LU:=(atA s p).map (ndI s)
def zaQ{s:Sc}{n:Nat}(h:ndK s n≠1/\onS s p n=true):atL s p (n+1)=(n:Int)::atL s p n:=Xe h
def zeC{s:Sc}{n:Nat}(h:¬(ndK s n≠1/\onS s p n=true)):atL s p (n+1)=atL s p n:=Xb h
def zkx{s:Sc}{p:Pt}:∀{n:Nat} {i:Int},i∈atL s p n->0<=i/\i<n
 |n+1,i,h=>by
  unfold atL at h
  split at h
  ·rcases XD.1 h with rfl|h
   ·omega
   have:=zkx h;omega
  have:=zkx h;omega
def zuf(s:Sc)(p:Pt):∀(m n:Nat),(atL s p (n+m)).drop ((atL s p (n+m)).length-(atL s p n).length)=atL s p n/\(atL s p n).length<=(atL s p (n+m)).length
 |0,n=>by rw[XU,Q3];exact⟨rfl,Xi _⟩
 |m+1,n=>by
  obtain⟨h1,h2⟩:=zuf s p m n;rw[←KE]
  by_cases c:ndK s (n+m)≠1/\onS s p (n+m:Nat)=true
  ·rw[zaQ c,Xq,show(atL s p (n+m)).length+1-(atL s p n).length=(atL s p (n+m)).length-(atL s p n).length+1 by omega,List.drop_succ_cons];exact⟨h1,oM⟩
  rw[zeC c];exact⟨h1,h2⟩
def atT(s:Sc)(p:Pt)(n:Nat):Nat:=(atA s p).length-(atL s p n).length
def zCE{s:Sc}{n:Nat}(hn:n+1<=s.ns.length)(h:ndK s n≠1/\onS s p n=true):(atA s p)[atT s p (n+1)]?=some (n:Int)/\atT s p (n+1)+1=atT s p n:=by
 obtain⟨h1,h2⟩:=zuf s p (s.ns.length-(n+1)) (n+1);rw[show n+1+(s.ns.length-(n+1))=s.ns.length by omega]at h1 h2;have e:=Xj (λl=>l[0]?) h1;rw[KD,XU,zaQ h]at e;rw[zaQ h]at h2;refine⟨?_,?_⟩
 ·unfold atT;rw[zaQ h];exact e
 unfold atT atA;rw[zaQ h];rw[Xq]at h2 ⊢;omega
def zzV{s:Sc}{n:Nat}(h:¬(ndK s n≠1/\onS s p n=true)):atT s p (n+1)=atT s p n:=by unfold atT;rw[zeC h]
def zmv(s:Sc)(p:Pt):CX 36 [wr s,wk p] (.dfn 60 [.dptr (scE s),.dptr (ptE p)]):=by
 exact yp 1 tok mix func36 rfl rfl rfl<|.refl
def zmw(s:Sc)(p:Pt):CX 15 [wr s,wk p] (.dfn 35 [.dptr (scE s),.dptr (ptE p)]):=by
 exact yp 1 tok mix func15 rfl rfl rfl<|.refl
def zDz(s:Sc)(p:Pt)(ht:yi s):zew prog 60 [.dptr (scE s),.dptr (ptE p)] zN (atA s p):=by
 refine zih (caps:=[.dptr (scE s),.dptr (ptE p)]) (enc:=zN) (xs:=atA s p) tok mix func60 rfl rfl rfl rfl (λl=>?_);intro hl0;refine wa<|⟨Nat,λj=>⟨[(4,i64 ((j:Int)-1)),(2,.dptr (ptE p)),(1,.dptr (scE s)),(0,.val (.func (.yield l) #[] #[]))],[],0,32,0⟩,λj=>atT s p j,λj=>j<=s.ns.length,λj=>j,s.ns.length,Xi _,?_,(Q3 _).symm,rfl,?_⟩
 ·exact zA []
 rintro j hj
 have hj:j<=s.ns.length:=hj;refine⟨λg:0<=(j:Int)-1=>?_,λg=>?_⟩
 ·obtain⟨k,rfl⟩:∃k,j=k+1:=⟨j-1,oM⟩;have ek:((k+1:Nat):Int)-1=(k:Int):=oM;have en1:some (i64 (((k+1:Nat):Int)-1-1))=some (i64 ((k:Int)-1)):=by rw[ek]
  refine wb λn hn=>?_;have en:=zn3 (show s.ns[k]?=some n by rw[←hn,ek];rfl);refine⟨λc:¬n.k=1=>?_,λc=>?_⟩
  ·refine wg (g_on s p (((k+1:Nat):Int)-1) ht)<|⟨λd=>?_,λd=>?_⟩
   ·have hc:ndK s k≠1/\onS s p k=true:=⟨by rw[en];exact c,by rw[ek]at d;exact d⟩;obtain⟨a1,a2⟩:=zCE hj hc;refine⟨rfl,(k:Int),a1,rfl,.cons (zh ek) .nil,(λk m h=>by cases h),?_⟩;refine Br.mk ?_ (.inl rfl);exact wa<|⟨k,oM,qN [] ⟨en1,rfl,rfl,rfl,tV⟩ trivial,a2,rfl,oN⟩
   have hc:¬(ndK s k≠1/\onS s p k=true):=λh=>d (by rw[ek];exact h.2)
   exact wa<|⟨k,oM,qN [] ⟨en1,rfl,rfl,rfl,tV⟩ trivial,zzV hc,rfl,oN⟩
  have hc:¬(ndK s k≠1/\onS s p k=true):=λh=>c (by rw[←en];exact h.1)
  exact wa<|⟨k,oM,qN [] ⟨en1,rfl,rfl,rfl,tV⟩ trivial,zzV hc,rfl,oN⟩
 obtain rfl:j=0:=by have g:¬0<=(j:Int)-1:=g;omega
 exact .inr (by unfold atT;rfl)
def zzW(s:Sc)(p:Pt)(ht:yi s):zew prog 35 [.dptr (scE s),.dptr (ptE p)] zN (qA s p):=by
 refine zzT (caps:=[.dptr (scE s),.dptr (ptE p)]) (enc:=zN) (xs:=qA s p) tok mix func35 rfl rfl rfl rfl (λl=>?_);refine wg (zmv s p)<|⟨rfl,rfl,Int,zN,atA s p,[(3,.dptr [.val (.func (.yield l) #[] #[])]),(1,.dptr (scE s))],1,zDz s p ht,λ_=>rfl,⟨rfl,rfl,rfl⟩,(Xz _).symm,(zzU 1).trans (zA []),?_⟩;intro j y hy;have hm:=zkx (Xf hy);refine .split 7 (Ob.mk (by decide +kernel) ?_);refine Ob.mk hm λn hn=>?_
 refine⟨rfl,ndI s y,by unfold qA;rw[XA,hy];rfl,rfl,.cons (zh (zfa hn).symm) .nil,(λk m h=>by cases h),?_⟩;exact Br.mk ⟨rfl,rfl⟩ rfl
abbrev zzX(T:TypeId):Mem:=.box T [.sl ptE (List.replicate 9223372036854775808 zp)]
def ziq{σ:St}{k:Nat}{T:TypeId}(h:(k,zzX T)∈σ.M):¬zyu σ:=λ⟨E,ρ,a,w,hr⟩=>by
 obtain⟨b,vs,_,_,hl,_,hg⟩:=hr.mem.rel k _ h
 cases vs with
 |nil=>cases hl
 |cons v vs=>exact ztR (hg 0 _ v rfl rfl)
def firE(l:LU):SV:=.tup [i64 (l.headD 0),pr (0<l.length)]
def firS(j:Nat):LT:=match j with
 |0=>[(0,.box 3 [i64 0]),(1,.box 4 [bl false])]
 |_+1=>[(0,.box 3 [i64 0]),(1,.box 4 [bl false]),(2,zzX 3)]
def zDA(s:Sc)(p:Pt)(ht:yi s):CX 16 [wr s,wk p] (firE (qA s p)):=by
 refine uz 1 tok mix func16 rfl rfl rfl<|wg (zmw s p) ?_
 refine⟨Int,zN,qA s p,2,[(4,.loc 0 0),(5,.loc 1 0)],firS,λ_=>3,zzW s p ht,λ_=>rfl,⟨rfl,rfl,rfl,rfl⟩,
  zi [2,3],⟨Xg _,rfl⟩,λj=>?_,?_,?_⟩
 ·intro k m hm
  cases j <;> (unfold firS at hm;simp only[XD,XR,or_false,KL]at hm)
  ·obtain⟨_,rfl⟩|⟨_,rfl⟩:=hm <;> rfl
  obtain⟨_,rfl⟩|⟨_,rfl⟩|⟨_,rfl⟩:=hm <;> rfl
 ·intro j y hy hL
  cases j with
  |succ j=>exact absurd hL (ziq (k:=2) (T:=3) (.tail _ (.tail _ (.head _))))
  |zero=>
   cases h:qA s p with
   |nil=>rw[h]at hy;cases hy
   |cons a r=>
    rw[h]at hy;obtain rfl:a=y:=Xl hy;refine⟨[(0,.box 3 [i64 a]),(1,.box 4 [bl true])],3,zi [0,1],λk m hm=>?_,zW .refl (zI (Nat.succ_pos _))⟩;simp only[XD,XR,or_false,KL]at hm
    obtain⟨_,rfl⟩|⟨_,rfl⟩:=hm <;> rfl
 intro hL
 cases h:qA s p with
 |nil=>exact zW .refl (zc dC)
 |cons a r=>rw[h]at hL;exact absurd hL (ziq (k:=2) (T:=3) (.tail _ (.tail _ (.head _))))
def zn4(s:Sc)(p:Pt):LU:=match atA s p with
 |[]=>[]
 |i::_=>(jD s i).map (ndI s)
def wayS(s:Sc)(j:Nat):LT:=match j with
 |0=>[(0,.box 26 (scE s)),(1,.box 31 [.own 2]),(2,.arr 3 zN 1 [])]
 |_+1=>[(0,.box 26 (scE s)),(1,.box 31 [.own 2]),(2,.arr 3 zN 1 []),(3,zzX 3)]
def zwk(s:Sc)(i:Int):(jD s i).length<=64:=by
 unfold jD;split
 ·rename_i h;obtain⟨n,hn⟩:=zdr h;obtain⟨i,rfl⟩:∃q:Nat,i=(q:Int):=⟨i.toNat,by have:=h.2.1;omega⟩;have hn:s.ns[i]?=some n:=hn;have hd:=ur h.1 n (Xf hn);have:=zg5 (za5 h.1) (d:=n.d.toNat) (i:=i) (by rw[vn hn];congr 1;omega);rw[Xz,JO,this];omega
 exact Xg _
def zDB(s:Sc)(p:Pt)(ht:yi s):CX 18 [wr s,wk p] (.sl zN (zn4 s p)):=by
 refine uz 1 tok mix func18 rfl rfl rfl<|wg (zmv s p) ?_
 refine⟨Int,zN,atA s p,2,[(2,.loc 0 0),(5,.loc 1 0)],wayS s,λ_=>4,zDz s p ht,λ_=>rfl,⟨rfl,rfl,rfl,rfl⟩,
  zA [(0,some 0),(1,some 2),(2,none)],⟨Xg _,rfl⟩,λj=>?_,?_,?_⟩
 ·intro k m hm
  cases j <;> (unfold wayS at hm;simp only[XD,XR,or_false,KL]at hm)
  ·obtain⟨_,rfl⟩|⟨_,rfl⟩|⟨_,rfl⟩:=hm <;> first|rfl|trivial
  obtain⟨_,rfl⟩|⟨_,rfl⟩|⟨_,rfl⟩|⟨_,rfl⟩:=hm <;> first|rfl|trivial
 ·intro j y hy hL
  cases j with
  |succ j=>exact absurd hL (ziq (k:=3) (T:=3) (.tail _ (.tail _ (.tail _ (.head _)))))
  |zero=>
  have hs:=zwk s y;refine wg (zDx s y ht.tame) λhl=>?_
  have e:zn4 s p=(jD s y).map (ndI s):=by
   unfold zn4
   cases hL:atA s p with
   |nil=>rw[hL]at hy;cases hy
   |cons a r=>rw[hL]at hy;rw[show y=a from(Xl hy).symm]
  refine⟨Nat,λq=>⟨[(17,i64 q),(16,i64 ((jD s y).length:Int)),(15,.sl zN (jD s y)),(5,.loc 1 0),(2,.loc 0 0)],[(0,.box 26 (scE s)),(1,.box 31 [.own 2]),(2,.arr 3 zN 1 (((jD s y).take q).map (ndI s)))],4,32,2⟩,
   λq=>q<=(jD s y).length,λq=>(jD s y).length-q,0,Xg _,zi [0,1,2],?_⟩
  rintro q hq
  have hq:q<=(jD s y).length:=hq;refine⟨λg:(q:Int)<(jD s y).length=>?_,λg=>?_⟩
  ·refine wb λk(hk:(jD s y)[q]?=some k)=>?_;obtain⟨_,hi⟩:=zn2 (Xf hk);have hlen:(((jD s y).take q).map (ndI s)).length<=64:=by rw[Xz,Xv];omega
   refine wd<|Ob.mk hi.2 λn hn=>?_;refine⟨Int,zN,[n.id],rfl,wb3 ?_⟩;refine⟨[n.id],rfl,Ob.mk ⟨by show(((((jD s y).take q).map (ndI s)).length:Int)+1)*8<=_;omega,by rw[Kk];omega,dC,λx hx=>by rw[Xu.1 hx];rfl⟩ ?_⟩;exact wh<|wa<|⟨q+1,by show q+1<=(jD s y).length;omega,zt [0,1,5] ⟨rfl,rfl,aR (by rw[Xm,hk,XG,←zfa hn];rfl),tV⟩,oN⟩
  obtain rfl:q=(jD s y).length:=by have g:¬(q:Int)<(jD s y).length:=g;omega
  refine⟨[(0,.box 26 (scE s)),(1,.box 31 [.own 2]),(2,.arr 3 zN 1 (zn4 s p))],4,zt [0,1,2] ⟨rfl,rfl,aR (by rw[e,Kf]),tV⟩,λk m hm=>?_,.refl⟩;simp only[XD,XR,or_false,KL]at hm
  obtain⟨_,rfl⟩|⟨_,rfl⟩|⟨_,rfl⟩:=hm <;> first|rfl|trivial
 intro hL;unfold zn4
 cases h:atA s p with
 |nil=>exact .refl
 |cons a r=>rw[h]at hL;exact absurd hL (ziq (k:=3) (T:=3) (.tail _ (.tail _ (.tail _ (.head _)))))
def zd8{s:Sc}{n:Nat}(hv:zV s)(hn:n<s.ns.length)(hk:∀m∈s.ns,1<=m.k/\m.k<=3)(h:ndK s n≠1):(zG s n).k=2∨(zG s n).k=3:=by
 have e:s.ns[n]?=some s.ns[n]:=Xa hn;have hi:inS s (n:Int):=⟨hv,oM,oM⟩
 have en:zG s n=s.ns[n]:=by
  unfold zG;rw[Xe hi,XX,e];rfl
 rw[zn3 e]at h;have:=hk _ (X5 hn);rw[en];omega
def zdv{s:Sc}(h:zV s):∀m∈s.ns,1<=m.k/\m.k<=3:=λm hm=>by
 obtain⟨i,hi⟩:=Ju.1 hm;exact(zaO (uq h hi).1).1
def zqx(s:Sc)(p:Pt):∀n,(atL s p n).length<=n
 |0=>Xi _
 |n+1=>by
  have:=zqx s p n;unfold atL;split <;> (try rw[Xq]) <;> omega
def zug{s:Sc}{p:Pt}(h:¬zV s):∀n,atL s p n=[]
 |0=>rfl
 |n+1=>by rw[zeC λc=>zd7 (f:=7) (λk=>h k.1.1) c.2];exact zug h n
def zzY(s:Sc)(p:Pt):(atA s p).length<=64:=by
 by_cases h:zV s
 ·have:=zqx s p s.ns.length;have:=yY h;unfold atA;omega
 unfold atA;rw[zug h];decide
def zwl(s:Sc)(p:Pt):(qA s p).length<=64:=by
 unfold qA;rw[Xz];exact zzY s p
def zuh(s:Sc)(p:Pt)(ht:yi s):CX 14 [wr s,wk p] (.sl zN (qA s p)):=by
 refine uz 1 tok mix func14 rfl rfl rfl ?_;have hs:=zwl s p;refine wg (zmw s p) ?_
 refine⟨Int,zN,qA s p,1,[(5,.loc 0 0)],λj=>[(0,.box 31 [.own 1]),(1,.arr 3 zN 1 ((qA s p).take j))],λ_=>2,zzW s p ht,λ_=>rfl,⟨rfl,rfl,rfl,rfl⟩,
  zA [(0,some 2),(1,none)],⟨Xg _,rfl⟩,λj=>?_,?_,?_⟩
 ·intro k m hm;simp only[XD,XR,or_false,KL]at hm
  obtain⟨_,rfl⟩|⟨_,rfl⟩:=hm <;> first|rfl|trivial
 ·intro j y hy _;have hlt:((qA s p).take j).length<=1000:=by rw[Xv];omega
  refine⟨Int,zN,[y],rfl,wb3 ?_⟩;refine⟨[y],rfl,Ob.mk ⟨by show((((qA s p).take j).length:Int)+1)*8<=_;omega,by rw[Kk];omega,dC,λx hx=>by rw[Xu.1 hx];rfl⟩ ?_⟩;exact zt [0,3] ⟨rfl,aR (by rw[Xm,hy];rfl),tV⟩
 exact λ_=>kM Kf
def zCF{a b:LU}{i:Nat}{y:Int}(hx:a[i]?=some x)(hy:b[i]?=some y)(h:a.take i=b.take i):a.take (i+1)=b.take (i+1)↔x=y:=by
 rw[Xm,Xm,hx,hy,h];simp
def zky(a b:LU):CX 13 [.sl zN a,.sl zN b] (pr (a=b)):=by
 refine zd func13 λl1=>?_;intro l2;refine⟨λh=>zc λk=>h (by rw[k]),λh=>?_⟩;have h:¬¬(a.length:Int)=b.length:=h;refine⟨Nat,λi=>⟨[(5,i64 i),(1,.sl zN b),(0,.sl zN a)],[],0,26,0⟩,λi=>i<=a.length/\a.take i=b.take i,λi=>a.length-i,0,⟨Xg _,rfl⟩,zA [],?_⟩
 rintro i ⟨hi,he⟩
 intro l3;refine⟨λg:(i:Int)<a.length=>?_,λg:¬(i:Int)<a.length=>?_⟩
 ·refine wc<|wb λx hx=>wb λy hy=>?_;have e:=zCF hx hy he;refine⟨λc=>zc λk=>c (e.1 (by rw[k])),λc=>?_⟩;exact wa<|⟨i+1,⟨oM,e.2 (Xc.1 c)⟩,zA [],oN⟩
 rw[Xk oM,Xk oM]at he;exact zI he
def cN(id k d op mode:Int)(pa:SV)(rule:Int)(f:SV):LQ:=
 i64 id::i64 k::i64 d::(afE idA++([nS,i64 0,u8 op,i64 mode,bl false,bl false,pa,i64 rule,f]++zzF))
def nN(id k d op mode:Int)(p:LW)(rule:Int)(f:LX):Nd:={ zNd with id:=id,k:=k,d:=d,t:=idA,op:=op,mode:=mode,path:=p,rule:=rule,fill:=f }
variable{mode:Int}{rule:Int}{pa:SV}
def zui{id k d op:Int}{f:SV}{p:LW}{fl:LX}(hp:LE pa (.sl sgE p))(hf:LE f (.sl qb fl)):LEs (cN id k d op mode pa rule f) (ndE (nN id k d op mode p rule fl)):=
 .C (.C (.C (LEs.append .refl (.cons zw (.C (.C (.C (.cons (zc λh=>absurd (show false=true from h) dC) (.cons (zc λh=>absurd (show false=true from h) dC) (.cons hp (.C (.cons hf zCo))))))))))))
def zzZ{id k d op:Int}(f g:SV)(j:Nat)(s':SV)(h:(cN id k d op mode pa rule g)[j]?=some s'):∃s,(cN id k d op mode pa rule f)[j]?=some s/\(s'=s∨(s=f/\s'=g)):=by
 have e:cN id k d op mode pa rule g=(cN id k d op mode pa rule f).set 35 g:=rfl;have hl:(cN id k d op mode pa rule f).length=47:=rfl;rw[e,Kw]at h
 by_cases c:35=j
 ·subst c;rw[Xe rfl,Xe (by rw[hl];decide)]at h;exact⟨f,rfl,.inr ⟨rfl,(Xl h).symm⟩⟩
 rw[Xb c]at h;exact⟨s',h,.inl rfl⟩
abbrev box1:LW:=jJ 0 0 1 1
def pgH:Sc:=⟨4,4,⟨0,0,0,0⟩,[nN 7 2 0 0 0 box1 1 [yW 1],nN 3 1 0 9 1 [] 0 [],nN 5 2 1 0 0 box1 2 [yW 1]]⟩
def zmx(f:SV):LM:=[cN 7 2 0 0 0 (.sl sgE box1) 1 f,cN 3 1 0 9 1 nS 0 nS,cN 5 2 1 0 0 (.sl sgE box1) 2 f]
def zmy(f:SV):∀x∈zmx f,x.length=47:=λx hx=>by
 simp only[zmx,XD,XR,or_false]at hx
 rcases hx with rfl|rfl|rfl <;> rfl
def zCG:CG0 32 [] [] (.agg (scO pgH 0)) [(0,zqi pgH.ns)]:=by
 refine zem tok mix func32 rfl rfl rfl<|wg (zhD 0 0 1 1)<|⟨Unit,uE,[()],rfl,wb0 ?_⟩;refine wg v8<|wg v8<|wg v8<|⟨zmx (.own 1),rfl,Ob.mk ⟨rfl,dC,dC,dC,zmy _⟩ ?_⟩;have pf:LE (.sl uE [()]) (.sl qb [yW 1]):=zr6 (e:=uE) (g:=qb) (λ_=>yW 1) (xs:=[()]) λ_ _=>LEs.d zzG rfl
 refine⟨_,((zbX (sz0:=47) (T0:=65) 1 2 (enc:=uE) (ys:=[()]) (xs:=zmx (.own 1)) rfl rfl (xs':=zmx (.sl uE [()])) rfl (zmy _) (λi j x' s' hx hs=>?_)).trans
  (zbZ 2 (xs:=zmx (.sl uE [()])) (ys:=pgH.ns.map ndE) rfl (.cons (zui .refl pf) (.cons (zui zw zw) (.cons (zui .refl pf) .nil))))).trans (zcW 2 ndE pgH.ns rfl (λ_ _=>rfl)),some 2,?_,rfl,λ_ _=>rfl⟩
 ·match i,hx with
  |0,hx=>cases hx;obtain⟨s,h1,h2⟩:=zzZ (.own 1) _ j s' hs;exact⟨_,s,rfl,h1,h2⟩
  |1,hx=>cases hx;exact⟨_,s',rfl,hs,.inl rfl⟩
  |2,hx=>cases hx;obtain⟨s,h1,h2⟩:=zzZ (.own 1) _ j s' hs;exact⟨_,s,rfl,h1,h2⟩
  |i+3,hx=>cases hx
 exact zoN (.cons (jH rfl) (.cons (jH rfl) (.cons (jH rfl) (.cons (jH rfl) (.cons (jH rfl) (.cons (jH rfl) (.cons (.own 2 rfl) .nil)))))))
def zCH:CX 32 [] (wr pgH):=zCG.plain rfl
def bxK(s:Sc)(k:Nat):Rc:=if ndK s k≠1 then zbi s k else k8
def bxN(s:Sc)(n:Nat):List Rc:=(List.range s.ns.length).map λk=>if k<n then bxK s k else k8
def arN(s:Sc):Nat->Rc
 |0=>k8
 |n+1=>if ndK s n≠1 then zk3 (arN s n) (zbi s n) else arN s n
def enN(b:List Rc)(n:Nat):LU:=((List.range n).filter λk=>decide (¬(b.getD k k8).mt)).map λk:Nat=>(k:Int)
def zcl(s:Sc)(n:Nat):(bxN s n).length=s.ns.length:=by unfold bxN;rw[Xz,Kc]
def zkz{s:Sc}{n k:Nat}(h:k<s.ns.length):(bxN s n)[k]?=some (if k<n then bxK s k else k8):=by
 unfold bxN;rw[XA,KT h];rfl
def zCI{s:Sc}{n:Nat}(h:n<s.ns.length)(hk:ndK s n≠1):(bxN s n).set n (zbi s n)=bxN s (n+1):=by
 refine Kv λj=>?_
 by_cases hj:j<s.ns.length
 ·rw[Kw,zkz hj,zkz hj,zcl]
  by_cases c:n=j
  ·subst c;rw[Xe rfl,Xe h,Xe oM];unfold bxK;rw[Xe hk]
  rw[Xb c]
  by_cases q:j<n
  ·rw[Xe q,Xe oM]
  rw[Xb q,Xb oM]
 rw[XF (by rw[XP,zcl];omega),XF (by rw[zcl];omega)]
def zz0{s:Sc}{n:Nat}(hk:¬ndK s n≠1):bxN s (n+1)=bxN s n:=by
 unfold bxN;refine Kg λk _=>?_
 by_cases c:k=n
 ·subst c;rw[Xe oM,Xb oM];unfold bxK;rw[Xb hk]
 by_cases q:k<n
 ·rw[Xe oM,Xe q]
 rw[Xb oM,Xb q]
def zkA{b:List Rc}{n:Nat}(h:¬(b.getD n k8).mt):enN b (n+1)=enN b n++[(n:Int)]:=by
 unfold enN;rw[KI,Ke,XG,Ku,Xe (decide_eq_true h)];rfl
def zz1{b:List Rc}{n:Nat}(h:(b.getD n k8).mt):enN b (n+1)=enN b n:=by
 unfold enN;rw[KI,Ke,XG,Ku,Xb (by simpa using h)];exact XM _
def zz2(b:List Rc)(n:Nat):(enN b n).length<=n:=by
 unfold enN;rw[Xz];have:=K6 (λk=>decide (¬(b.getD k k8).mt)) (List.range n)
 rwa [Kc]at this
def quE(a:Rc)(es:SV):LQ:=rcE a++[es,nS]
variable{a:Pt}{b:Pt}
def zz3(ha:zm a)(hb:zm b)(hp:zm p):orP a b p=(b.x-p.x)*(p.y-a.y)+(b.y-p.y)*(a.x-p.x):=by
 unfold orP zns wdg;rw[zgS ha,zgS hb,zgS hp];unfold zC;dsimp only;simp only[Int.sub_mul,YA,QL];omega
def zuj(ha:zm a)(hb:zm b)(hp:zm p)(h1:p.x<a.x)(h2:p.x<b.x)(h3:a.y<=p.y)(h4:p.y<b.y):0<orP a b p:=by
 rw[zz3 ha hb hp];have k1:0<=(b.x-p.x)*(p.y-a.y):=XI oM oM;have k2:0<(b.y-p.y)*(a.x-p.x):=QW oM oM;omega
def zqy(ha:zm a)(hb:zm b)(hp:zm p)(h1:a.x<=p.x)(h2:b.x<=p.x)(h3:a.y<=p.y)(h4:p.y<b.y):¬0<orP a b p:=by
 rw[zz3 ha hb hp];have k1:0<=(p.x-b.x)*(p.y-a.y):=XI oM oM;have k2:0<=(b.y-p.y)*(p.x-a.x):=XI oM oM;have e1:(b.x-p.x)*(p.y-a.y)= -((p.x-b.x)*(p.y-a.y)):=by rw[←Int.neg_mul];congr 1;omega
 have e2:(b.y-p.y)*(a.x-p.x)= -((b.y-p.y)*(p.x-a.x)):=by rw[←QV];congr 1;omega
 omega
def atY(p v:Pt):Int:=if v.y<=p.y then 1 else 0
def zhe(ha:zm a)(hb:zm b)(hp:zm p)(h1:p.x<a.x)(h2:p.x<b.x):jL a b p=atY p a-atY p b:=by
 unfold jL atY
 by_cases c:a.y<=p.y <;> by_cases d:b.y<=p.y
 ·rw[Xb oM,Xb oM,Xe c,Xe d];omega
 ·rw[Xe ⟨c,oM,zuj ha hb hp h1 h2 c oM⟩,Xe c,Xb d];omega
 ·rw[Xb oM,Xe ⟨d,oM,zuj hb ha hp h2 h1 d oM⟩,Xb c,Xe d];omega
 rw[Xb oM,Xb oM,Xb c,Xb d];omega
def zbH(ha:zm a)(hb:zm b)(hp:zm p)(h:(a.x<=p.x/\b.x<=p.x)∨(p.y<a.y/\p.y<b.y)∨(a.y<=p.y/\b.y<=p.y)):jL a b p=0:=by
 unfold jL;rw[Xb,Xb]
 ·rintro⟨h3,h4,h5⟩
  rcases h with h|h|h
  ·exact zqy hb ha hp h.2 h.1 h3 h4 h5
  ·omega
  omega
 rintro⟨h3,h4,h5⟩
 rcases h with h|h|h
 ·exact zqy ha hb hp h.1 h.2 h3 h4 h5
 ·omega
 omega
def zwm{r:LR}(hr:∀v∈r,zm v)(hp:zm p)(h:(∀v∈r,p.x<v.x)∨(∀v∈r,v.x<=p.x)∨(∀v∈r,p.y<v.y)∨∀v∈r,v.y<=p.y):yx r p r.length=0:=by
 have at_:∀i,i<r.length->r.getD i zp∈r:=λi hi=>by
  rw[Xn,Xa hi];exact X5 hi
 have md:∀i,i<r.length->(i+1)%r.length<r.length:=λi hi=>Kr _ oM
 rcases h with h|h
 ·have key:∀n,n<=r.length->yx r p n=atY p (r.getD 0 zp)-atY p (r.getD (n%r.length) zp):=λn=>by
   induction n with
   |zero=>intro _;rw[Nat.zero_mod];unfold yx;simp
   |succ n ih=>
    intro hn;rw[yy,ih oM,zhe (hr _ (at_ n oM)) (hr _ (at_ _ (md n oM))) hp (h _ (at_ n oM)) (h _ (at_ _ (md n oM))),Xw (show n<r.length by omega)];omega
  rw[key r.length (Xi _),JU];omega
 have key:∀n,n<=r.length->yx r p n=0:=λn=>by
  induction n with
  |zero=>intro _;rfl
  |succ n ih=>
   intro hn;have m1:=at_ n oM;have m2:=at_ _ (md n oM)
   rw[yy,ih oM,zbH (hr _ m1) (hr _ m2) hp (by
    rcases h with h|h|h
    ·exact .inl ⟨h _ m1,h _ m2⟩
    ·exact .inr (.inl ⟨h _ m1,h _ m2⟩)
    exact .inr (.inr ⟨h _ m1,h _ m2⟩))]
   rfl
 exact key r.length (Xi _)
def zkB{rs:LN}{p:Pt}(h:∀r∈rs,yx r p r.length=0):∀n,n<=rs.length->za7 rs p n=0
 |0,_=>rfl
 |n+1,hn=>by
  have hr:rs[n]?=some rs[n]:=Xa oM;rw[zck hr,zkB h n oM,h _ (X5 _)];rfl
def zmz(h:qQ rs rule p):zds rs/\(loR rs).x<=p.x/\p.x<(hiR rs).x/\(loR rs).y<=p.y/\p.y<(hiR rs).y:=by
 have hw:zdu rs p≠0:=λe=>by
  unfold qQ zbj at h;rw[e]at h
  obtain⟨_,h⟩|⟨_,h⟩:=h <;> exact h rfl
 unfold zdu at hw
 split at hw
 rotate_left
 ·exact absurd rfl hw
 rename_i hok;have vok:∀r∈rs,∀v∈r,zm v:=hok.1.2
 have zero:∀P:Pt->Prop,(∀r:LR,(∀v∈r,P v)->(∀v∈r,p.x<v.x)∨(∀v∈r,v.x<=p.x)∨(∀v∈r,p.y<v.y)∨∀v∈r,v.y<=p.y)->¬∀v∈rs.flatten,P v:=λP hP hall=>
  hw (zkB (λr hr=>zwm (vok r hr) hok.2 (hP r λv hv=>hall v (Yf.2 ⟨r,hr,hv⟩))) _ (Xi _))
 have hs:zds rs:=⟨λe=>zero (λ_=>False) (λr hr=>.inl λv hv=>(hr v hv).elim) (by rw[e];intro v hv;cases hv),hok.1⟩;have el:loR rs=bnd mnP rs.flatten:=Xe hs;have eh:hiR rs=bnd mxP rs.flatten:=Xe hs;refine⟨hs,?_,?_,?_,?_⟩
 ·rw[el]
  rcases Qa p.x (bnd mnP rs.flatten).x with c|c
  ·exact(zero (λv=>p.x<v.x) (λr hr=>.inl hr) λv hv=>by have:=znC hv;omega).elim
  exact c
 ·rw[eh]
  rcases Qa p.x (bnd mxP rs.flatten).x with c|c
  ·exact c
  exact(zero (λv=>v.x<=p.x) (λr hr=>.inr (.inl hr)) λv hv=>by have:=znC hv;omega).elim
 ·rw[el]
  rcases Qa p.y (bnd mnP rs.flatten).y with c|c
  ·exact(zero (λv=>p.y<v.y) (λr hr=>.inr (.inr (.inl hr))) λv hv=>by have:=znC hv;omega).elim
  exact c
 rw[eh]
 rcases Qa p.y (bnd mxP rs.flatten).y with c|c
 ·exact c
 exact(zero (λv=>v.y<=p.y) (λr hr=>.inr (.inr (.inr hr))) λv hv=>by have:=znC hv;omega).elim
def zCJ(h:qQ rs rule p):¬(zhc rs).mt/\(zhc rs).x0<=p.x/2^8/\p.x/2^8<(zhc rs).x1/\(zhc rs).y0<=p.y/2^8/\p.y/2^8<(zhc rs).y1:=by
 obtain⟨hs,h1,h2,h3,h4⟩:=zmz h;have hh:=zzO hs;have hl:=(zkr hs).1;have e8:(2:Int)^8=256:=dC
 have e:zhc rs=zgj rs:=by
  unfold zhc;rw[Xb (λk=>k hs),Xb];unfold zgj upI;dsimp only;rw[e8];omega
 rw[e];unfold zgj upI Rc.mt Rc.ok v9;dsimp only;rw[e8];unfold zm at hl;omega
def zqz(w h:Int):kX (jJ 0 0 w h):=by
 by_cases k:rok 0 0 w h
 ·have e:∀(u v:Int) (p:Pt),nm v=1->zaC u v->zm p->qO u ⟨v,p,zp,zp⟩=0:=λu v p h1 h2 h3=>by
   unfold qO;rw[Xb (show¬nm v<0 by rw[h1];decide),kD h2,kD];unfold zb3;dsimp only;rw[h1];exact⟨⟨h3,λh=>absurd h dC⟩,⟨dC,λ_=>rfl⟩,⟨dC,λ_=>rfl⟩⟩
  unfold jJ;rw[Xe k];unfold rok inR at k;refine vf.2 ⟨(by show 5<=256;decide),e 5 1 _ rfl dC ?_,e 1 2 _ rfl dC ?_,e 2 2 _ rfl dC ?_,e 2 2 _ rfl dC ?_,(show qO 2 zjw=0 by decide),tV⟩
  all_goals
   unfold zm;dsimp only;omega
 unfold jJ;rw[Xb k];decide
def yD(id w h:Int):Nd:=nN id 2 0 0 0 (jJ 0 0 w h) 1 [yW 1]
def adS(s:Sc)(id:Int):Sc:={ s with ns:=s.ns++[yD id s.w s.h] }
def zdw{s:Sc}{id:Int}{k:Nat}(h:k<s.ns.length):(adS s id).ns[k]?=s.ns[k]? :=XH h
def zfb(s:Sc)(id:Int):(adS s id).ns[s.ns.length]?=some (yD id s.w s.h):=by
 unfold adS;rw[XB (Xi _),Q3];rfl
def zfc(s:Sc)(id:Int):(adS s id).ns.length=s.ns.length+1:=by unfold adS;rw[Xp];rfl
def zz4{s:Sc}{id:Int}{k:Nat}(h:k<s.ns.length):(zU (adS s id).ns)[k]?=(zU s.ns)[k]? :=by
 unfold zU;rw[XA,XA,zdw h]
def zmA{ds es:LU}{d:Int}:∀{k:Nat},(∀j,j<k->ds[j]?=es[j]?)->jX ds d k=jX es d k
 |0,_=>rfl
 |k+1,h=>by
  unfold jX;rw[h k oM,zmA λj hj=>h j oM]
def zFh{s:Sc}{id:Int}{k:Nat}(h:k<s.ns.length):yj (zU (adS s id).ns) k=yj (zU s.ns) k:=by
 unfold yj;rw[Xn,Xn,zz4 h];exact zmA λj hj=>zz4 oM
def zqA{s:Sc}{id:Int}:∀(n k:Nat),k<n->k<s.ns.length->za6 (zU (adS s id).ns) k=za6 (zU s.ns) k
 |n+1,k,hn,hk=>by
  rw[jR,jR,zFh hk];have hp:=zci (zU s.ns) k
  rcases Qa (yj (zU s.ns) k) 0 with c|c
  ·rw[vo c,vo c]
  obtain⟨j,hj⟩:=Qr c;rw[hj]at hp ⊢;rw[zqA n j oM oM]
def zFi{s:Sc}{id:Int}{k:Nat}(h:k<s.ns.length):tAt (adS s id).ns k=tAt s.ns k:=by unfold tAt;rw[zdw h]
def zDC{s:Sc}{id:Int}{k:Nat}(hv:zV s)(hv':zV (adS s id))(hk:k<s.ns.length):inS (adS s id) k/\inS s k:=
 ⟨⟨hv',oM,by rw[zfc];omega⟩,hv,oM,oM⟩
def zss{s:Sc}{id:Int}{k:Nat}(hv:zV s)(hv':zV (adS s id))(hk:k<s.ns.length):kH (adS s id) k=kH s k/\zG (adS s id) k=zG s k/\jD (adS s id) k=jD s k:=by
 obtain⟨h1,h2⟩:=zDC hv hv' hk;have ec:=zqA (s:=s) (id:=id) (k+1) k oM hk
 have et:trs (adS s id).ns k=trs s.ns k:=by
  unfold trs;rw[ec];exact Kg λa ha=>zFi (by have:=zkq (k+1) k oM a ha;omega)
 refine⟨?_,?_,?_⟩
 ·unfold kH;rw[kD hv',kD hv,Xb (λq=>by rw[zfc]at q;omega),Xb (λq=>by omega),et]
 ·unfold zG;rw[Xe h1,Xe h2,show((k:Int)).toNat=k from rfl,zdw hk]
 unfold jD;rw[Xe h1,Xe h2,ec]
def zuk{s:Sc}{id:Int}{k:Nat}(hv:zV s)(hv':zV (adS s id))(hk:k<s.ns.length):zhd (adS s id) p k↔zhd s p k:=by
 obtain⟨e1,e2,_⟩:=zss hv hv' hk;unfold zhd zkh;rw[e1,e2]
def zz5{s:Sc}{id:Int}{k:Nat}{p:Pt}(hv:zV s)(hv':zV (adS s id))(hk:k<s.ns.length):jS (adS s id) k p↔jS s k p:=by
 obtain⟨h1,h2⟩:=zDC hv hv' hk;obtain⟨_,_,e3⟩:=zss hv hv' hk
 have low:∀j∈jD s k,∃m:Nat,j=m/\m<s.ns.length:=λj hj=>by
  obtain⟨_,hi⟩:=zn2 hj;exact⟨j.toNat,by have:=hi.2.1;omega,by have:=hi.2;omega⟩
 unfold jS;rw[e3];refine⟨λ⟨_,a,b⟩=>⟨h2,a,λj hj=>?_⟩,λ⟨_,a,b⟩=>⟨h1,a,λj hj=>?_⟩⟩
 ·obtain⟨m,rfl,hm⟩:=low j hj;exact(zuk hv hv' hm).1 (b _ hj)
 obtain⟨m,rfl,hm⟩:=low j hj;exact(zuk hv hv' hm).2 (b _ hj)
def zFj{s:Sc}{id:Int}{k:Nat}(hk:k<s.ns.length):ndK (adS s id) k=ndK s k:=by unfold ndK;rw[zdw hk]
def zDD{s:Sc}{id:Int}{k:Nat}(hv:zV s)(hv':zV (adS s id))(hk:k<s.ns.length)(h:ndK s k≠1):onS (adS s id) p k=true↔onS s p k=true:=by
 obtain⟨e1,e2,_⟩:=zss hv hv' hk;have ec:=zz5 (p:=p) hv hv' hk;have hn:=zd8 hv hk (zdv hv) h;have ef:vY (adS s id) k=vY s k:=by unfold vY;rw[e1,e2]
 have es:zaP (adS s id) k=zaP s k:=by unfold zaP;rw[e1,e2]
 have ei:zg6 (adS s id) k=zg6 s k:=by unfold zg6;rw[e1,e2]
 unfold onS
 by_cases c:jS s k p
 ·rcases hn with hn|hn
  ·rw[zkw (ec.2 c) (by rw[e2];exact hn),zkw c hn,ef,es,e2]
  have k2:¬(zG s k).k=2:=by rw[hn];decide
  rw[zud (ec.2 c) (by rw[e2];exact k2) (by rw[e2];exact hn),zud c k2 hn,ei]
 exact⟨λq=>absurd q (zd7 λz=>c (ec.1 z)),λq=>absurd q (zd7 c)⟩
def zz6{s:Sc}{id:Int}{p:Pt}(hv:zV s)(hv':zV (adS s id)):∀n,n<=s.ns.length->atL (adS s id) p n=atL s p n
 |0,_=>rfl
 |n+1,hn=>by
  have ih:=zz6 (p:=p) hv hv' n oM;have ek:=zFj (s:=s) (id:=id) (k:=n) oM
  by_cases c:ndK s n≠1/\onS s p n=true
  ·rw[zaQ c,zaQ ⟨by rw[ek];exact c.1,(zDD hv hv' oM c.1).2 c.2⟩,ih]
  rw[zeC c,zeC (λq=>c ⟨by rw[←ek];exact q.1,(zDD hv hv' oM (by rw[←ek];exact q.1)).1 q.2⟩),ih]
def zz7{i:Nat}{n:Nd}(h1:jQ n=0)(h2:n.id∉(l.take i).map Nd.id)(h3:qE l i n):zeg l i n=0:=by
 unfold zeg;rw[qV h1,Xb h2,kD h3]
def zCK{id w h:Int}(hid:1<=id/\id<=1073741824):jQ (yD id w h)=0:=by
 have e2:yL (yD id w h)=0:=by
  unfold yL
  rw[kD (show kX (yD id w h).path from zqz w h),kD (show zaM (yD id w h).rule from(by decide:zaM 1)),Xb (show¬(1<(yD id w h).fill.length∨1<(yD id w h).strk.length) from(by decide:¬(1<1∨1<0))),
   Xb (show¬(0<(yD id w h).strk.length/\¬kV (yD id w h).pen) from λk=>absurd (show 0<0 from k.1) dC),Xb (show¬((yD id w h).strk.length=0/\¬jW (yD id w h).pen) from(by decide +kernel:¬(0=0/\¬jW (yD 0 0 0).pen))),
   Xb (show¬((¬∀p∈(yD id w h).fill,yu p)∨¬∀p∈(yD id w h).strk,yu p) from(by decide +kernel:¬((¬∀p∈[yW 1],yu p)∨¬∀p∈([]:LX),yu p)))]
 unfold jQ
 rw[Xb (show¬((yD id w h).k<1∨3<(yD id w h).k) from(by decide:¬((2:Int)<1∨(3:Int)<2))),
  Xb (show¬((yD id w h).id<1∨1073741824<(yD id w h).id∨(yD id w h).d<0∨8<=(yD id w h).d) from(by omega:¬(id<1∨1073741824<id∨(0:Int)<0∨(8:Int)<=0))),
  kD (show(yD id w h).t.ok from(by decide +kernel:idA.ok)),Xb (show¬v7 (yD id w h).t=0 from(by decide +kernel:¬v7 idA=0)),kD (show kX (yD id w h).clip from(by decide +kernel:kX ([]:LW))),
  kD (show zef (yD id w h) from(by decide +kernel:zef (yD 0 0 0))),Xb (show¬(yD id w h).k=1 from(by decide:¬(2:Int)=1)),Xe (show(yD id w h).k=2 from rfl),e2]
def zz8{s:Sc}{id:Int}(hv:zV s)(h64:s.ns.length<64)(hid:1<=id/\id<=1073741824)(hn:id∉s.ns.map Nd.id):zV (adS s id):=by
 obtain⟨h1,h2,h3⟩:=vm.1 hv;refine vm.2 ⟨h1,by rw[zfc];omega,λj hj=>?_⟩;rw[zfc]at hj;have et:(adS s id).ns.take j=s.ns.take j:=Kz oM
 by_cases c:j<s.ns.length
 ·obtain⟨n,hnj⟩:∃n,s.ns[j]?=some n:=⟨_,Xa c⟩;have e:=h3 j c;rw[uo hnj]at e;obtain⟨g1,g2,g3⟩:=zg4 e;rw[uo ((zdw c).trans hnj)];refine zz7 g1 (by rw[et];exact g2) ?_;unfold qE at g3 ⊢;rw[zdw oM];exact g3
 obtain rfl:j=s.ns.length:=by omega
 rw[uo (zfb s id)];refine zz7 (zCK hid) (by rw[et,Kf];exact hn) ?_;unfold qE
 by_cases z:s.ns.length=0
 ·rw[z,show(adS s id).ns[0-1]?=some (yD id s.w s.h) by have:=zfb s id;rw[z]at this;exact this];exact(Xe rfl).mpr rfl
 obtain⟨m,hm⟩:∃m,s.ns[s.ns.length-1]?=some m:=⟨_,Xa oM⟩;rw[zdw oM,hm];show if s.ns.length=0 then(yD id s.w s.h).d=0 else _
 rw[Xb z];exact .inr (zaO (uq hv hm).1).2.1.1
def zz9:zaJ [idA]=(idA,0):=by kernel_rfl
def tr_id{l:LW}(hv:kX l):trans idA l=(l,0):=by
 have:=zyl (x:=0) (y:=0) dC dC hv (λp hp=>by rw[ztz];exact zjK hv p hp)
 rwa [zym]at this
def zhf{q:LR}(h:q.getLast?≠some b):jq 32 ([⟨q,false⟩],0) ⟨2,b,zp,zp⟩=([⟨q++[b],false⟩],0):=by
 have e:zbv ⟨q,false⟩ ⟨2,b,zp,zp⟩ 32=(⟨q++[b],false⟩,0):=by
  show((⟨ye q b,false⟩:Pl),(0:Int))=_;unfold ye;rw[Xb h]
 rw[zfU,Xb (show¬(⟨2,b,zp,zp⟩:Sg).v=1 from(by decide:¬(2:Int)=1)),show([⟨q,false⟩]:LY).getLastD ⟨[],false⟩=⟨q,false⟩ from rfl,e];rfl
def zul{a b c d:Int}(h:a≠c∨b≠d):(⟨a,b⟩:Pt)≠⟨c,d⟩:=λe=>by
 injection e with h1 h2
 exact h.elim (λk=>k h1) λk=>k h2
def qR(w h:Int):LR:=[⟨0,0⟩,⟨w*256,0⟩,⟨w*256,h*256⟩,⟨0,h*256⟩]
def zmB{w h:Int}(hw:1<=w/\w<=256)(hh:1<=h/\h<=256):yG (jJ 0 0 w h) idA 32=([qR w h],0):=by
 have hv:=zqz w h
 have er:jJ 0 0 w h=[⟨1,⟨0,0⟩,zp,zp⟩,⟨2,⟨w*256,0⟩,zp,zp⟩,⟨2,⟨w*256,h*256⟩,zp,zp⟩,⟨2,⟨0,h*256⟩,zp,zp⟩,zjw]:=
  Xe ⟨dC,dC,by unfold inR;omega,by unfold inR;omega,oM,oM⟩
 have ef:jm (jJ 0 0 w h) 32=([⟨qR w h,true⟩],0):=by
  rw[er];unfold jm;have s1:jq 32 ([⟨[⟨0,0⟩],false⟩],0) ⟨2,⟨w*256,0⟩,zp,zp⟩=([⟨[⟨0,0⟩,⟨w*256,0⟩],false⟩],0):=zhf λk=>zul (.inl oM) (Xl (show some (⟨0,0⟩:Pt)=some ⟨w*256,0⟩ from k))
  have s2:jq 32 ([⟨[⟨0,0⟩,⟨w*256,0⟩],false⟩],0) ⟨2,⟨w*256,h*256⟩,zp,zp⟩=([⟨[⟨0,0⟩,⟨w*256,0⟩,⟨w*256,h*256⟩],false⟩],0):=zhf λk=>zul (.inr oM) (Xl (show some (⟨w*256,0⟩:Pt)=some ⟨w*256,h*256⟩ from k))
  have s3:jq 32 ([⟨[⟨0,0⟩,⟨w*256,0⟩,⟨w*256,h*256⟩],false⟩],0) ⟨2,⟨0,h*256⟩,zp,zp⟩=([⟨qR w h,false⟩],0):=zhf λk=>zul (.inl oM) (Xl (show some (⟨w*256,h*256⟩:Pt)=some ⟨0,h*256⟩ from k))
  rw[KH,show jq 32 ([],0) ⟨1,⟨0,0⟩,zp,zp⟩=([⟨[⟨0,0⟩],false⟩],0) from rfl,KH,s1,KH,s2,KH,s3];show(([⟨qi (qR w h),true⟩]:LY),(0:Int))=_;rw[show qi (qR w h)=qR w h from Xb λk=>zul (.inr oM) (Xl (show some (⟨0,h*256⟩:Pt)=some ⟨0,0⟩ from k.2))]
 have eq:kv (jJ 0 0 w h) 32=([⟨qR w h,true⟩],0):=by
  unfold kv;rw[kD hv,kD (show zev 32 by decide),ef,qV rfl];exact Xb (show¬4096<4 by decide)
 unfold yG;rw[tr_id hv,qV rfl,eq,qV rfl];rfl
def zCL{w h:Int}(hw:1<=w/\w<=256)(hh:1<=h/\h<=256):kE [qR w h]:=by
 have:=zd6 (idA,0) (jJ 0 0 w h);unfold vX at this;rw[qV rfl,zmB hw hh]at this;exact this
def zum{w h:Int}(hw:1<=w/\w<=256)(hh:1<=h/\h<=256)(hp:zm p):qQ [qR w h] 1 p↔0<=p.x/\0<=p.y/\p.x<256*w/\p.y<256*h:=by
 have ok:∀v∈qR w h,zm v:=λv hv=>by
  simp only[qR,XD,XR,or_false]at hv;unfold zm
  rcases hv with rfl|rfl|rfl|rfl <;> dsimp only <;> omega
 have hr:kE [qR w h]:=zCL hw hh;have o1:=ok ⟨0,0⟩ (by simp[qR]);have o2:=ok ⟨w*256,0⟩ (by simp[qR]);have o3:=ok ⟨w*256,h*256⟩ (by simp[qR]);have o4:=ok ⟨0,h*256⟩ (by simp[qR]);have e1:jL ⟨0,0⟩ ⟨w*256,0⟩ p=0:=zbH o1 o2 hp oN;have e3:jL ⟨w*256,h*256⟩ ⟨0,h*256⟩ p=0:=zbH o3 o4 hp oN
 have e2:jL ⟨w*256,0⟩ ⟨w*256,h*256⟩ p=if p.x<256*w then(if 0<=p.y then 1 else 0)-(if h*256<=p.y then 1 else 0) else 0:=by
  by_cases c:p.x<256*w
  ·rw[Xe c,zhe o2 o3 hp oN oN];rfl
  rw[Xb c,zbH o2 o3 hp (.inl oN)]
 have e4:jL ⟨0,h*256⟩ ⟨0,0⟩ p=if p.x<0 then(if h*256<=p.y then 1 else 0)-(if 0<=p.y then 1 else 0) else 0:=by
  by_cases c:p.x<0
  ·rw[Xe c,zhe o4 o1 hp oN oN];rfl
  rw[Xb c,zbH o4 o1 hp (.inl oN)]
 have ew:zdu [qR w h] p=jL ⟨0,0⟩ ⟨w*256,0⟩ p+jL ⟨w*256,0⟩ ⟨w*256,h*256⟩ p+jL ⟨w*256,h*256⟩ ⟨0,h*256⟩ p+jL ⟨0,h*256⟩ ⟨0,0⟩ p:=by
  unfold zdu;rw[Xe ⟨hr,hp⟩];show za7 [qR w h] p (0+1)=_;rw[zck (r:=qR w h) rfl];show(0:Int)+yx (qR w h) p (((0+1)+1+1)+1)=_
  rw[yy,yy,yy,yy,show yx (qR w h) p 0=0 by simp[yx],show(qR w h).getD 0 zp=⟨0,0⟩ from rfl,show(qR w h).getD ((0+1)%(qR w h).length) zp=⟨w*256,0⟩ from rfl,
   show(qR w h).getD (0+1) zp=⟨w*256,0⟩ from rfl,show(qR w h).getD ((0+1+1)%(qR w h).length) zp=⟨w*256,h*256⟩ from rfl,show(qR w h).getD (0+1+1) zp=⟨w*256,h*256⟩ from rfl,
   show(qR w h).getD ((0+1+1+1)%(qR w h).length) zp=⟨0,h*256⟩ from rfl,show(qR w h).getD (0+1+1+1) zp=⟨0,h*256⟩ from rfl,show(0+1+1+1+1)%(qR w h).length=0 by show(4:Nat)%4=0;decide,show(qR w h).getD 0 zp=⟨0,0⟩ from rfl]
  omega
 unfold qQ zbj;rw[ew,e1,e2,e3,e4];constructor
 ·rintro(⟨_,k⟩|⟨k,_⟩)
  ·(repeat' split at k) <;> omega
  exact absurd k dC
 intro k;refine .inl ⟨rfl,?_⟩;rw[Xe (show p.x<256*w by omega),Xe (show 0<=p.y by omega),Xb (show¬h*256<=p.y by omega),Xb (show¬p.x<0 by omega)];decide
def zst(s:Sc)(p:Pt):Prop:=0<=p.x/\0<=p.y/\p.x<256*s.w/\p.y<256*s.h
instance (s:Sc) (p:Pt):Decidable (zst s p):=wi
def zqB{s:Sc}{id:Int}(hv:zV s)(hv':zV (adS s id)):onS (adS s id) p (s.ns.length:Nat)=true↔zst s p:=by
 have hz:¬za4 s:=(vm.1 hv).1;unfold za4 at hz;have hi:inS (adS s id) (s.ns.length:Nat):=⟨hv',oM,by rw[zfc];omega⟩
 have en:zG (adS s id) (s.ns.length:Nat)=yD id s.w s.h:=by
  unfold zG;rw[Xe hi,show(((s.ns.length:Nat):Int)).toNat=s.ns.length from rfl,zfb];rfl
 have hd:(zU (adS s id).ns)[s.ns.length]?=some 0:=vn (zfb s id);have ep:yj (zU (adS s id).ns) s.ns.length= -1:=(zj8 (za5 hv') hd).1 rfl;have ec:za6 (zU (adS s id).ns) (s.ns.length:Nat)=[s.ns.length]:=by rw[jR,ep,vo dC]
 have ew:kH (adS s id) (s.ns.length:Nat)=(idA,0):=by
  unfold kH trs;rw[kD hv',Xb (λq=>by rw[zfc]at q;omega),ec];show zaJ [tAt (adS s id).ns s.ns.length]=_;rw[zqa (zfb s id)];exact zz9
 have ea:jD (adS s id) (s.ns.length:Nat)=[((s.ns.length:Nat):Int)]:=by
  unfold jD;rw[Xe hi,ec];rfl
 have ef:vY (adS s id) (s.ns.length:Nat)=[qR s.w s.h]:=by
  unfold vY;rw[en,ew,Xb (show¬((yD id s.w s.h).k≠2∨(yD id s.w s.h).fill.length=0) from(by decide:¬((2:Int)≠2∨1=0)))];show(if (0:Int)≠0 then _ else(yG (jJ 0 0 s.w s.h) idA 32).1)=_;rw[qV rfl,zmB oM oM]
 have es:zaP (adS s id) (s.ns.length:Nat)=[]:=by
  unfold zaP;rw[en,Xe (.inr rfl)]
 have hc:jS (adS s id) (s.ns.length:Nat) p↔zm p:=⟨λk=>k.2.1,λk=>⟨hi,k,λj hj=>by
  rw[ea]at hj;rw[Xu.1 hj];intro q;rw[en]at q
  exact absurd (show 0<0 from q) dC⟩⟩
 have e0:¬qQ [] 1 p:=λk=>by
  unfold qQ zbj zdu at k
  split at k
  ·exact k.elim (λk=>k.2 rfl) λk=>absurd k.1 dC
  exact k.elim (λk=>k.2 rfl) λk=>absurd k.1 dC
 have pg:zst s p->zm p:=λk=>by unfold zst at k;unfold zm;omega
 by_cases h:zm p
 ·rw[show(onS (adS s id) p (s.ns.length:Nat)=true)↔_ from zkw (hc.2 h) (by rw[en];rfl),ef,es,en];exact⟨λk=>(zum oM oM h).1 (k.resolve_right e0),λk=>.inl ((zum oM oM h).2 k)⟩
 exact⟨λk=>absurd k (zd7 λq=>h (hc.1 q)),λk=>absurd (pg k) h⟩
def zFk{s:Sc}{id:Int}{p:Pt}(hv:zV s)(hv':zV (adS s id)):qA (adS s id) p=if zst s p then id::qA s p else qA s p:=by
 have ei:∀l:LU,(∀i∈l,0<=i/\i<s.ns.length)->l.map (ndI (adS s id))=l.map (ndI s):=λl h=>Kg λi hi=>by
  have:=h i hi;unfold ndI;rw[zdw oM]
 have em:(atL s p s.ns.length).map (ndI (adS s id))=(atL s p s.ns.length).map (ndI s):=ei _ λi hi=>zkx hi
 have e0:=zz6 (p:=p) hv hv' s.ns.length (Xi _);unfold qA atA;rw[zfc]
 by_cases c:zst s p
 ·rw[Xe c,zaQ ⟨by rw[zn3 (zfb s id)];exact(by decide:(2:Int)≠1),(zqB hv hv').2 c⟩,K8,e0,em,zfa (show(adS s id).ns[((s.ns.length:Nat):Int).toNat]?=_ from zfb s id)];rfl
 rw[Xb c,zeC λk=>c ((zqB hv hv').1 k.2),e0,em]
def zDE{s:Sc}{p:Pt}:∀n,(atL s p n).Pairwise (· > ·)
 |0=>.nil
 |n+1=>by
  have ih:=zDE (s:=s) (p:=p) n
  by_cases c:ndK s n≠1/\onS s p n=true
  ·rw[zaQ c];exact XY.2 ⟨λi hi=>(zkx hi).2,ih⟩
  rw[zeC c];exact ih
def zCM{s:Sc}(hv:zV s){i k:Nat}{y:Int}(hk:k<i)(hx:(qA s p)[i]?=some x)(hy:(qA s p)[k]?=some y):x≠y:=by
 unfold qA at hx hy;rw[XA,Yl]at hx hy;obtain⟨a,ha,rfl⟩:=hx;obtain⟨b,hb,rfl⟩:=hy
 have hgt:b > a:=by
  obtain⟨h1,e1⟩:=Xd.1 (show(atL s p s.ns.length)[i]?=some a from ha);obtain⟨h2,e2⟩:=Xd.1 (show(atL s p s.ns.length)[k]?=some b from hb);have:=Q5.1 (zDE (s:=s) (p:=p) s.ns.length) k i h2 h1 hk
  rwa [e1,e2]at this
 have la:=zkx (Xf ha);have lb:=zkx (Xf hb);obtain⟨n,hn⟩:∃n,s.ns[a.toNat]?=some n:=⟨_,Xa oM⟩;obtain⟨m,hm⟩:∃m,s.ns[b.toNat]?=some m:=⟨_,Xa oM⟩;rw[zfa hn,zfa hm];intro e;refine(uq hv hm).2.1 (XL.2 ⟨n,?_,e⟩);exact Xf (i:=a.toNat) (by rw[XK,Xe oM];exact hn)
def vp(l:LV)(c:Int):Nat:=(l.filter λn=>decide (c<=n.id)).length
def zAa(l:LV)(c:Int):vp l c<=l.length:=K6 _ _
def zcm(n:Nd)(l:LV)(c:Int):vp (n::l) c=if c<=n.id then vp l c+1 else vp l c:=by
 unfold vp;rw[Ku]
 by_cases h:c<=n.id
 ·rw[Xe (decide_eq_true h),Xe h];rfl
 rw[Xb (by simpa using h),Xb h]
def zkC{c:Int}:∀l:LV,vp l (c+1)<=vp l c
 |[]=>Xi _
 |n::l=>by
  have:=zkC (c:=c) l;rw[zcm,zcm]
  split <;> split <;> omega
def zkD{c:Int}:∀{l:LV},c∈l.map Nd.id->vp l (c+1)<vp l c
 |n::l,h=>by
  have m:=zkC (c:=c) l;rw[zcm,zcm]
  by_cases e:n.id=c
  ·rw[Xb oM,Xe oM];omega
  have:=zkD (l:=l) ((XD.1 h).resolve_left λk=>e k.symm)
  split <;> split <;> omega
def zk4(id:Int):LV->Int->Int
 |[],_=> -1
 |n::r,k=>if n.id=id then k else zk4 id r (k+1)
def zsu{id:Int}:∀{l:LV} {k:Int},0<=k->(0<=zk4 id l k↔id∈l.map Nd.id)
 |[],k,_=>⟨λh=>absurd h (by show¬(0:Int)<= -1;decide),λh=>by cases h⟩
 |n::r,k,hk=>by
  have ih:=zsu (id:=id) (l:=r) (k:=k+1) oM;unfold zk4;rw[K8,XD]
  by_cases c:n.id=id
  ·rw[Xe c];exact⟨λ_=>.inl c.symm,λ_=>hk⟩
  rw[Xb c,ih];exact⟨.inr,λh=>h.resolve_left λk=>c k.symm⟩
def zAb{s:Sc}:bxN s 0=List.replicate s.ns.length k8:=by
 unfold bxN;rw[List.eq_replicate_iff];refine⟨by rw[Xz,Kc],λb hb=>?_⟩;obtain⟨k,_,rfl⟩:=XL.1 hb;exact Xb (Nat.not_lt_zero _)
def zCN(x y:Int):CX 164 [i64 x,i64 y] (pr (x<y)):=by
 have nan:∀z:Int,CX 236 [i64 z] (pr (¬z=z)):=λz=>by
  exact zd func236<|.refl
 exact zd func164<|wg (nan x)<|⟨λk=>absurd rfl k,λ_=>.refl⟩
def zFl(n:Nat)(h:n<=12):CX 118 [u64 n] (i64 (z1 n)):=by
 have l64:CX 168 [u64 n] (i64 (z1 n)):=by
  refine zd func168<|Br.mk (λk=>by have k:(4294967296:Int)<=n:=k;omega) (λ_=>?_);refine⟨λk=>by have k:(65536:Int)<=n:=k;omega,λ_=>?_⟩;refine⟨λk=>by have k:(256:Int)<=n:=k;omega,λ_=>?_⟩;refine wa<|wb8 λb hb=>?_;have hb':b.toNat=z1 n:=zjh hb (by show n<256;omega) (λh=>len8tab_get n h);have:=bitLen_le8 n oM;have:z1 n<=8:=this;(iterate 2 refine wa ?_);exact zh oM
 exact zd func118<|zb.to _ l64 rfl .refl
def ju(l:LU):zfg (.arr 3 zN 1 l):=λ_ _=>rfl
def revT(q l:LU)(i:Nat):Prop:=l.length=q.length/\∀k,k<q.length->l[k]?=if k<i∨q.length<=k+i then q[q.length-1-k]? else q[k]?
def zFm(q:LU)(hq:q.length<=1000):CG0 82 [.own 0] [(0,.arr 3 zN 1 q)] (.tup []) [(0,.arr 3 zN 1 q.reverse)]:=by
 refine yA tok mix func82 rfl rfl rfl (ju _) rfl λhl0=>wa<|⟨Nat×LU,λ⟨i,l⟩=>⟨[(3,i64 ((q.length:Int)-1-i)),(2,i64 i),(0,.own 0)],[(0,.arr 3 zN 1 l)],1,28,1⟩,λz=>2*z.1<=q.length/\revT q z.2 z.1,λz=>q.length-z.1,(0,q),⟨Xg _,rfl,λk hk=>?_⟩,?_,?_⟩
 ·dsimp only at hk ⊢;rw[Xb oM]
 ·exact ku [0] ⟨iR oM,rfl,rfl,tV⟩ ⟨rfl,tV⟩
 rintro⟨i,l⟩ ⟨h1,h2,h3⟩
 have h1:2*i<=q.length:=h1;have h2:l.length=q.length:=h2;refine⟨λg:(i:Int)<(q.length:Int)-1-i=>?_,λg:¬(i:Int)<(q.length:Int)-1-i=>?_⟩
 ·have ej:((q.length:Int)-1-i).toNat=q.length-1-i:=oM;refine wc<|wb<|wb λx hx=>?_;have hx:l[q.length-1-i]?=some x:=by rw[←hx,ej]
  refine wb<|wb λy(hy:l[i]?=some y)=>?_;refine wb<|wb λx' _=>?_;refine⟨x,rfl,?_⟩;refine Ob.mk (by rw[XP];omega)<|Ob.mk (by rw[XP];omega) λy' _=>?_;refine⟨y,rfl,?_⟩;(iterate 2 refine wa ?_)
  refine⟨(i+1,(l.set i x).set (q.length-1-i) y),⟨oN,by dsimp only;rw[XP,XP];exact h2,λk hk=>?_⟩,
   ku [0] ⟨iR oM,rfl,rfl,tV⟩ ⟨aR (by rw[ej];rfl),tV⟩,oN⟩
  dsimp only;rw[h3 _ oM,Xb oM]at hx hy;rw[Kw,Kw,XP]
  by_cases c1:q.length-1-i=k
  ·rw[Xe c1,Xe oM,Xe oM,←hy];congr 1;omega
  rw[Xb c1]
  by_cases c2:i=k
  ·rw[Xe c2,Xe oM,Xe oM,←hx];congr 1;omega
  rw[Xb c2,h3 k hk]
  by_cases c3:k<i∨q.length<=k+i
  ·rw[Xe c3,Xe oM]
  rw[Xb c3,Xb oM]
 refine⟨aR (Kv λk=>?_),.refl⟩
 by_cases hk:k<q.length
 ·rw[h3 k hk,Ys hk]
  split
  ·rfl
  congr 1;omega
 rw[XF oM,XF (by rw[JO];omega)]
def bxA(s:Sc):List Rc:=bxN s s.ns.length
def enA(s:Sc):LU:=enN (bxA s) s.ns.length
def zgm(s:Sc)(r:Rc)(i:Int):Prop:=¬(((bxA s).getD i.toNat k8).meet r).mt
instance (s:Sc) (r:Rc) (i:Int):Decidable (zgm s r i):=inferInstanceAs (Decidable (¬_))
def zaU(s:Sc)(r:Rc)(l:LU):LU:=l.filter λi=>decide (zgm s r i)
def zDF{b:List Rc}{n:Nat}(h:i∈enN b n):0<=i/\i<n:=by
 unfold enN at h;obtain⟨k,hk,rfl⟩:=XL.1 h;have:=XT.1 (QB.1 hk).1;omega
def en_up(b:List Rc)(n:Nat):(enN b n).Pairwise (·<=·):=by
 unfold enN;rw[QS];exact((List.pairwise_lt_range).sublist List.filter_sublist).imp λh=>oM
variable{r:Rc}
def zCO{s:Sc}{l:LU}(hi:l[j]?=some i)(h:zgm s r i):zaU s r (l.take (j+1))=zaU s r (l.take j)++[i]:=by
 unfold zaU;rw[Xm,hi,Ke,QM,Ku,Xe (decide_eq_true h)];rfl
def zFn{s:Sc}{l:LU}(hi:l[j]?=some i)(h:¬zgm s r i):zaU s r (l.take (j+1))=zaU s r (l.take j):=by
 unfold zaU;rw[Xm,hi,Ke,QM,Ku,Xb (by simpa using h)];exact XM _
def zqC(p:Pt):Prop:=p.x < -1048576∨1048576<=p.x∨p.y < -1048576∨1048576<=p.y
instance (p:Pt):Decidable (zqC p):=wj
def yZ(p:Pt):Rc:=⟨p.x/2^8,p.y/2^8,p.x/2^8+1,p.y/2^8+1⟩
def onN(s:Sc)(p:Pt)(l:LU):LU:=(l.filter λi=>onS s p i).map (ndI s)
def zFo{s:Sc}{l:LU}(hi:l[j]?=some i)(h:onS s p i=true):onN s p (l.take (j+1))=onN s p (l.take j)++[ndI s i]:=by
 unfold onN;rw[Xm,hi,Ke,QM,Ku,Xe h,XG];rfl
def on_no{s:Sc}{l:LU}(hi:l[j]?=some i)(h:¬onS s p i=true):onN s p (l.take (j+1))=onN s p (l.take j):=by
 unfold onN;rw[Xm,hi,Ke,QM,Ku,Xb h];exact Xj _ (XM _)
def zAc:ltS pgH:=by decide +kernel
def zwn:zV pgH:=by decide +kernel
def zFp:qA pgH ⟨5,5⟩=[5,7]/\qA pgH ⟨256,5⟩=[]/\qA pgH ⟨9,0⟩=[5,7]/\zn4 pgH zp=[3,5]/\zn4 pgH ⟨999,0⟩=[]/\onS pgH zp 1=true/\¬onS pgH zp 3=true:=by decide +kernel
def Rc.within(a b:Rc):Prop:=a.meet b=a.canon
instance instH20 (a b:Rc):Decidable (a.within b):=inferInstanceAs (Decidable (_=_))
inductive Qt where
 |leaf (a:Rc) (es:LU)
 |node (a:Rc) (es:LU) (p q r s:Qt)
def Qt.area:Qt->Rc
 |.leaf a _=>a
 |.node a _ _ _ _ _=>a
def Qt.ents:Qt->LU
 |.leaf _ es=>es
 |.node _ es _ _ _ _=>es
def Qt.all:Qt->LU
 |.leaf _ es=>es
 |.node _ es p q r s=>es++p.all++q.all++r.all++s.all
def Qt.find(z:Rc):Qt->LU
 |.leaf a es=>if (a.meet z).mt then[] else es
 |.node a es p q r s=>if (a.meet z).mt then[] else es++p.find z++q.find z++r.find z++s.find z
def Qt.push(i:Int):Qt->Qt
 |.leaf a es=>.leaf a (es++[i])
 |.node a es p q r s=>.node a (es++[i]) p q r s
def Qt.cut:Qt->Qt
 |.leaf a es=>.node a es (.leaf ⟨a.x0,a.y0,a.x0+(a.x1-a.x0)/2,a.y0+(a.y1-a.y0)/2⟩ []) (.leaf ⟨a.x0+(a.x1-a.x0)/2,a.y0,a.x1,a.y0+(a.y1-a.y0)/2⟩ [])
   (.leaf ⟨a.x0,a.y0+(a.y1-a.y0)/2,a.x0+(a.x1-a.x0)/2,a.y1⟩ []) (.leaf ⟨a.x0+(a.x1-a.x0)/2,a.y0+(a.y1-a.y0)/2,a.x1,a.y1⟩ [])
 |t=>t
def Qt.ins(i:Int)(b:Rc):Nat->Qt->Qt
 |0,t=>t.push i
 |n+1,t=>if t.area.area<=1 then t.push i else match t.cut with
  |.leaf a es=>.leaf a (es++[i])
  |.node a es p q r s=>if b.within p.area then .node a es (p.ins i b n) q r s else if b.within q.area then .node a es p (q.ins i b n) r s
   else if b.within r.area then .node a es p q (r.ins i b n) s else if b.within s.area then .node a es p q r (s.ins i b n) else .node a (es++[i]) p q r s
def Qt.good(B:Int->Rc):Qt->Prop
 |.leaf a es=>∀i∈es,(B i).within a
 |.node a es p q r s=>(∀i∈es++p.all++q.all++r.all++s.all,(B i).within a)/\p.good B/\q.good B/\r.good B/\s.good B
variable{B:Int->Rc}
def Qt.all_in{t:Qt}(h:t.good B):∀i∈t.all,(B i).within t.area:=by
 cases t with
 |leaf a es=>exact h
 |node a es p q r s=>exact h.1
def zqD{a b z:Rc}(h:a.within b)(hz:¬(a.meet z).mt):¬(b.meet z).mt:=by
 have ha:¬a.mt:=λk=>hz (by unfold Rc.meet;rw[Xe (.inl k)];exact ji)
 have hzz:¬z.mt:=λk=>hz (by unfold Rc.meet;rw[Xe (.inr k)];exact ji)
 have hb:¬b.mt:=λk=>ha (by
  have e:a.meet b=a.canon:=h;unfold Rc.meet at e;rw[Xe (.inr k),Rc.canon_neg ha]at e
  rw[←e];exact ji)
 have e:a.meet b=a.canon:=h;unfold Rc.meet at e hz ⊢;rw[Xb (λk=>k.elim ha hb),Rc.canon_neg ha]at e;rw[Xb (λk=>k.elim ha hzz)]at hz;rw[Xb (λk=>k.elim hb hzz)];have hm:¬Rc.mt ⟨max a.x0 b.x0,max a.y0 b.y0,min a.x1 b.x1,min a.y1 b.y1⟩:=λk=>ha (by rw[Rc.canon_pos k]at e;rw[←e];exact ji)
 rw[Rc.canon_neg hm]at e;have hk:¬Rc.mt ⟨max a.x0 z.x0,max a.y0 z.y0,min a.x1 z.x1,min a.y1 z.y1⟩:=λk=>hz (by rw[Rc.canon_pos k];exact ji)
 have n1:=Rc.notmt hk
 have e':max a.x0 b.x0=a.x0/\max a.y0 b.y0=a.y0/\min a.x1 b.x1=a.x1/\min a.y1 b.y1=a.y1:=by
  refine⟨?_,?_,?_,?_⟩
  ·exact Xj Rc.x0 e
  ·exact Xj Rc.y0 e
  ·exact Xj Rc.x1 e
  exact Xj Rc.y1 e
 have nb:=Rc.notmt hb;have nz:=Rc.notmt hzz;have na:=Rc.notmt ha
 have hf:¬Rc.mt ⟨max b.x0 z.x0,max b.y0 z.y0,min b.x1 z.x1,min b.y1 z.y1⟩:=by
  unfold Rc.mt Rc.ok v9 at*;dsimp only at*;omega
 rw[Rc.canon_neg hf];exact hf
def zwo{B:Int->Rc}{z:Rc}:∀{t:Qt},t.good B->(t.find z).filter (λi=>decide (¬((B i).meet z).mt))=t.all.filter λi=>decide (¬((B i).meet z).mt):=by
 have none:∀{t:Qt},t.good B->(t.area.meet z).mt->t.all.filter (λi=>decide (¬((B i).meet z).mt))=[]:=λ{t} h hm=>by
  rw[List.filter_eq_nil_iff];intro i hi k;exact zqD (Qt.all_in h i hi) (of_decide_eq_true k) hm
 intro t
 induction t with
 |leaf a es=>
  intro h;unfold Qt.find
  split
  ·rename_i k;exact(none h k).symm
  rfl
 |node a es p q r s hp hq hr hs=>
  intro h;unfold Qt.find
  split
  ·rename_i k;exact(none h k).symm
  unfold Qt.all;simp only[Ke,hp h.2.1,hq h.2.2.1,hr h.2.2.2.1,hs h.2.2.2.2]
def Qt.cut_is(t:Qt):∃p q r s,t.cut=.node t.area t.ents p q r s/\t.cut.all=t.all:=by
 cases t with
 |leaf a es=>exact⟨_,_,_,_,rfl,by show es++[]++[]++[]++[]=es;simp⟩
 |node a es p q r s=>exact⟨_,_,_,_,rfl,rfl⟩
def Qt.cut_good{t:Qt}(h:t.good B):t.cut.good B:=by
 cases t with
 |leaf a es=>exact⟨λi hi=>h i (by simpa[Qt.all] using hi),(λ_ hi=>by cases hi),(λ_ hi=>by cases hi),(λ_ hi=>by cases hi),λ_ hi=>by cases hi⟩
 |node a es p q r s=>exact h
def zAd(i:Int)(b:Rc)(n:Nat)(t:Qt):(t.ins i b n).area=t.area:=by
 have hp:(t.push i).area=t.area:=by cases t <;> rfl
 cases n with
 |zero=>exact hp
 |succ n=>
  unfold Qt.ins
  split
  ·exact hp
  obtain⟨p,q,r,s,e,_⟩:=t.cut_is;rw[e];dsimp only
  repeat' split
  all_goals rfl
def zdx{i:Int}{x x' y z:LU}(h:x'.Perm (i::x)):(y++x'++z).Perm (i::(y++x++z)):=by
 refine((h.append_left y).append_right z).trans ?_;have:=(List.perm_middle (a:=i) (l₁:=y) (l₂:=x++z))
 simpa[XS] using this
def zgn(i:Int)(t:Qt):(t.push i).all.Perm (i::t.all):=by
 cases t with
 |leaf a es=>exact Jv (l₁:=es) (l₂:=[i])
 |node a es p q r s=>
  have h:(es++[i]).Perm (i::es):=Jv (l₁:=es) (l₂:=[i]);have:=zdx (y:=[]) (z:=p.all++q.all++r.all++s.all) h
  simpa[Qt.push,Qt.all,XS] using this
def zcn(i:Int)(b:Rc):∀(n:Nat) (t:Qt),(t.ins i b n).all.Perm (i::t.all)
 |0,t=>zgn i t
 |n+1,t=>by
  unfold Qt.ins
  split
  ·exact zgn i t
  obtain⟨p,q,r,s,e,ea⟩:=t.cut_is;rw[←ea,e];dsimp only
  split
  ·have:=zdx (y:=t.ents) (z:=q.all++r.all++s.all) (zcn i b n p)
   simpa[Qt.all,XS] using this
  split
  ·have:=zdx (y:=t.ents++p.all) (z:=r.all++s.all) (zcn i b n q)
   simpa[Qt.all,XS] using this
  split
  ·have:=zdx (y:=t.ents++p.all++q.all) (z:=s.all) (zcn i b n r)
   simpa[Qt.all,XS] using this
  split
  ·have:=zdx (y:=t.ents++p.all++q.all++r.all) (z:=[]) (zcn i b n s)
   simpa[Qt.all,XS] using this
  exact zgn i (.node t.area t.ents p q r s)
def zmC{t:Qt}(h:t.good B)(hi:(B i).within t.area):(t.push i).good B:=by
 cases t with
 |leaf a es=>exact λj hj=>(Xr.1 hj).elim (h j) λk=>by rw[Xu.1 k];exact hi
 |node a es p q r s=>
  refine⟨λj hj=>?_,h.2⟩
  rcases XD.1 ((zgn i (.node a es p q r s)).mem_iff.1 hj) with rfl|k
  ·exact hi
  exact h.1 j k
def zdy{B:Int->Rc}{i:Int}:∀(n:Nat) {t:Qt},t.good B->(B i).within t.area->(t.ins i (B i) n).good B
 |0,t,h,hi=>zmC h hi
 |n+1,t,h,hi=>by
  have hall:=zcn i (B i) (n+1) t
  have hin:∀j∈(t.ins i (B i) (n+1)).all,(B j).within t.area:=λj hj=>by
   rcases XD.1 (hall.mem_iff.1 hj) with rfl|k
   ·exact hi
   exact Qt.all_in h j k
  revert hin
  clear hall;unfold Qt.ins
  split
  ·exact λ_=>zmC h hi
  obtain⟨p,q,r,s,e,ea⟩:=t.cut_is;have hc:=Qt.cut_good h;rw[e]at hc ⊢;dsimp only;obtain⟨_,h1,h2,h3,h4⟩:=hc
  split
  ·rename_i k;exact λhin=>⟨hin,zdy n h1 k,h2,h3,h4⟩
  split
  ·rename_i k;exact λhin=>⟨hin,h1,zdy n h2 k,h3,h4⟩
  split
  ·rename_i k;exact λhin=>⟨hin,h1,h2,zdy n h3 k,h4⟩
  split
  ·rename_i k;exact λhin=>⟨hin,h1,h2,h3,zdy n h4 k⟩
  exact λhin=>⟨hin,h1,h2,h3,h4⟩
end Go.Gs
