/- A point inside rings lies in their bounds: plain. -/
import Derived.Test.YtdkomlilfdbahaaGreatDoorMBH
set_option maxRecDepth 100000
set_option maxHeartbeats 80000000
set_option linter.all false
namespace Go.Gs
open Proofs.Tryz
open Go.Proofs
section
variable{a:Pt}{b:Pt}{p:Pt}
def zDg(c:zm a)(d:zm b)(e:zm p):orP a b p=(b.x-p.x)*(p.y-a.y)+(b.y-p.y)*(a.x-p.x):=by
 unfold orP zae wdg;rw[zad c,zad d,zad e];unfold zo;dsimp only;simp only[Int.sub_mul,YM,QR];omega
def zxd(c:zm a)(d:zm b)(e:zm p)(f:p.x<a.x)(g:p.x<b.x)(h:a.y<=p.y)(j:p.y<b.y):0<orP a b p:=by
 rw[zDg c d e];have k:0<=(b.x-p.x)*(p.y-a.y):=XI oM oM;have m:0<(b.y-p.y)*(a.x-p.x):=Q3 oM oM;omega
def ztB(c:zm a)(d:zm b)(e:zm p)(h:a.x<=p.x)(j:b.x<=p.x)(k:a.y<=p.y)(m:p.y<b.y):¬0<orP a b p:=by
 rw[zDg c d e];have n:0<=(p.x-b.x)*(p.y-a.y):=XI oM oM;have o:0<=(b.y-p.y)*(p.x-a.x):=XI oM oM;have f:(b.x-p.x)*(p.y-a.y)= -((p.x-b.x)*(p.y-a.y)):=by rw[←Int.neg_mul];congr 1;omega
 have g:(b.y-p.y)*(a.x-p.x)= -((b.y-p.y)*(p.x-a.x)):=by rw[←QQ];congr 1;omega
 omega
def atY(p v:Pt):Int:=if v.y<=p.y then 1 else 0
def zy7(g:zm a)(h:zm b)(j:zm p)(e:p.x<a.x)(f:p.x<b.x):uV a b p=atY p a-atY p b:=by
 unfold uV atY
 by_cases c:a.y<=p.y <;> by_cases d:b.y<=p.y
 .rw[Xc oM,Xc oM,Xe c,Xe d];omega
 .rw[Xe ⟨c,oM,zxd g h j e f c oM⟩,Xe c,Xc d];omega
 .rw[Xc oM,Xe ⟨d,oM,zxd h g j f e d oM⟩,Xc c,Xe d];omega
 rw[Xc oM,Xc oM,Xc c,Xc d];omega
def zy8(f:zm a)(g:zm b)(j:zm p)(h:(a.x<=p.x/\b.x<=p.x)∨(p.y<a.y/\p.y<b.y)∨(a.y<=p.y/\b.y<=p.y)):uV a b p=0:=by
 unfold uV;rw[Xc,Xc]
 .rintro⟨c,d,e⟩
  rcases h with h|h|h
  .exact ztB g f j h.2 h.1 c d e
  .omega
  omega
 rintro⟨c,d,e⟩
 rcases h with h|h|h
 .exact ztB f g j h.1 h.2 c d e
 .omega
 omega
def zy9{r:LU}(c:∀v∈r,zm v)(j:zm p)(h:(∀v∈r,p.x<v.x)∨(∀v∈r,v.x<=p.x)∨(∀v∈r,p.y<v.y)∨∀v∈r,v.y<=p.y):uW r p r.length=0:=by
 have at_:∀i,i<r.length->r.getD i zp∈r:=λi hi=>by
  rw[Xs,Xb hi];exact X5 hi
 have g:∀i,i<r.length->(i+1)%r.length<r.length:=λi hi=>Kq _ oM
 rcases h with h|h
 .have key:∀n,n<=r.length->uW r p n=atY p (r.getD 0 zp)-atY p (r.getD (n%r.length) zp):=λn=>by
   induction n with
   |zero=>intro _;rw[Nat.zero_mod];unfold uW;simp
   |succ n f=>
    intro k;rw[zdB,f oM,zy7 (c _ (at_ n oM)) (c _ (at_ _ (g n oM))) j (h _ (at_ n oM)) (h _ (at_ _ (g n oM))),XB (show n<r.length by omega)];omega
  rw[key r.length (Xj _),J2];omega
 have key:∀n,n<=r.length->uW r p n=0:=λn=>by
  induction n with
  |zero=>intro _;rfl
  |succ n f=>
   intro k;have d:=at_ n oM;have e:=at_ _ (g n oM)
   rw[zdB,f oM,zy8 (c _ d) (c _ e) j (by
    rcases h with h|h|h
    .exact .inl ⟨h _ d,h _ e⟩
    .exact .inr (.inl ⟨h _ d,h _ e⟩)
    exact .inr (.inr ⟨h _ d,h _ e⟩))]
   rfl
 exact key r.length (Xj _)
def zm0{rs:LQ}{p:Pt}(h:∀r∈rs,uW r p r.length=0):∀n,n<=rs.length->zbS rs p n=0
 |0,_=>rfl
 |n+1,d=>by
  have c:rs[n]?=some rs[n]:=Xb oM;rw[zdC c,zm0 h n oM,h _ (X5 _)];rfl
variable{rs:LQ}{rule:Int}
def zo6(h:yk rs rule p):zcS rs/\(loR rs).x<=p.x/\p.x<(hiR rs).x/\(loR rs).y<=p.y/\p.y<(hiR rs).y:=by
 have j:zh5 rs p≠0:=λe=>by
  unfold yk zcm at h;rw[e]at h
  obtain⟨_,h⟩|⟨_,h⟩:=h <;> exact h rfl
 unfold zh5 at j
 split at j
 rotate_left
 .exact absurd rfl j
 rename_i g;have vok:∀r∈rs,∀v∈r,zm v:=g.1.2
 have zero:∀P:Pt->Prop,(∀r:LU,(∀v∈r,P v)->(∀v∈r,p.x<v.x)∨(∀v∈r,v.x<=p.x)∨(∀v∈r,p.y<v.y)∨∀v∈r,v.y<=p.y)->¬∀v∈rs.flatten,P v:=λP hP hall=>
  j (zm0 (λr f=>zy9 (vok r f) g.2 (hP r λv d=>hall v (JL.2 ⟨r,f,d⟩))) _ (Xj _))
 have k:zcS rs:=⟨λe=>zero (λ_=>False) (λr f=>.inl λv d=>(f v d).elim) (by rw[e];intro v d;cases d),g.1⟩;have el:loR rs=bnd mnP rs.flatten:=Xe k;have eh:hiR rs=bnd mxP rs.flatten:=Xe k;refine⟨k,?_,?_,?_,?_⟩
 .rw[el]
  rcases Qf p.x (bnd mnP rs.flatten).x with c|c
  .exact(zero (λv=>p.x<v.x) (λr f=>.inl f) λv d=>by have:=zpT d;omega).elim
  exact c
 .rw[eh]
  rcases Qf p.x (bnd mxP rs.flatten).x with c|c
  .exact c
  exact(zero (λv=>v.x<=p.x) (λr f=>.inr (.inl f)) λv d=>by have:=zpT d;omega).elim
 .rw[el]
  rcases Qf p.y (bnd mnP rs.flatten).y with c|c
  .exact(zero (λv=>p.y<v.y) (λr f=>.inr (.inr (.inl f))) λv d=>by have:=zpT d;omega).elim
  exact c
 rw[eh]
 rcases Qf p.y (bnd mxP rs.flatten).y with c|c
 .exact c
 exact(zero (λv=>v.y<=p.y) (λr f=>.inr (.inr (.inr f))) λv d=>by have:=zpT d;omega).elim
def zFB(h:yk rs rule p):¬(zbV rs).mt/\(zbV rs).x0<=p.x/2^8/\p.x/2^8<(zbV rs).x1/\(zbV rs).y0<=p.y/2^8/\p.y/2^8<(zbV rs).y1:=by
 obtain⟨c,g,j,m,n⟩:=zo6 h;have o:=zCA c;have f:=(zeN c).1;have d:(2:Int)^8=256:=dC
 have e:zbV rs=zaX rs:=by
  unfold zbV;rw[Xc (λk=>k c),Xc];unfold zaX upI;dsimp only;rw[d];omega
 rw[e];unfold zaX upI Rc.mt Rc.ok zbb;dsimp only;rw[d];unfold zm at f;omega
variable{i:Int}
def zDh{s:Sc}{l:LQ}(c:l∈vg s i)(d:¬(zbV l).mt):holds (zao s i) (zbV l):=by
 unfold vg at c;simp only[XA,XW,or_false]at c
 rcases c with rfl|rfl|rfl
 .exact zie (zie (zfE d))
 .exact zie (zfE d)
 exact zfE d
def zFC{s:Sc}(h:onS s p i=true)(d:(zT s i).k=2∨(zT s i).k=3):∃l∈vg s i,∃rule,yk l rule p:=by
 have c:uB s i p:=Xa.1 λk=>zkv k h
 rcases d with k|k
 .rcases(zmN (f:=7) c k).1 h with h|h
  .exact⟨_,X0 ..,_,h⟩
  exact⟨_,XR _ (X0 ..),_,h⟩
 exact⟨_,XR _ (XR _ (X0 ..)),_,(zCK (f:=7) c oM k).1 h⟩
def zDi{b:Rc}(c:¬b.mt)(h:b.x0<=p.x/2^8/\p.x/2^8<b.x1/\b.y0<=p.y/2^8/\p.y/2^8<b.y1):¬(b.meet (vu p)).mt:=by
 have f:=Rc.notmt c
 have e:¬(vu p).mt:=by
  unfold vu;unfold Rc.mt Rc.ok zbb at*;dsimp only;omega
 have g:=Rc.notmt e;unfold Rc.meet;rw[Xc (λk=>k.elim c e)]
 have d:¬Rc.mt ⟨max b.x0 (vu p).x0,max b.y0 (vu p).y0,min b.x1 (vu p).x1,min b.y1 (vu p).y1⟩:=by
  unfold vu at*;unfold Rc.mt Rc.ok zbb at*;dsimp only at*;omega
 rw[Rc.canon_neg d];exact d
def zDj{s:Sc}(h:onS s p i=true)(g:(zT s i).k=2∨(zT s i).k=3):¬zty p/\¬(zao s i).mt/\¬((zao s i).meet (vu p)).mt:=by
 obtain⟨l,d,rule,c⟩:=zFC h g;obtain⟨f,j⟩:=zFB c;obtain⟨e,m⟩:=zDh d f;obtain⟨c1,n,o,q,t⟩:=zo6 c;have u:=zCA c1;have d:=(zeN c1).1;unfold zm at d;refine⟨λk=>?_,e,zDi e oM⟩;unfold zty at k;omega
def zDk{s:Sc}{n:Nat}(c:n<s.ns.length):(bxA s).getD n qj=bxK s n:=by
 unfold bxA;rw[Xs,zmS c,Xe c];rfl
def zxe{s:Sc}{p:Pt}(o:qy s)(g:∀m∈s.ns,1<=m.k/\m.k<=3):∀n,n<=s.ns.length->((zbX s (vu p) (enN (bxA s) n)).reverse).filter (λi=>onS s p i)=atL s p n
 |0,_=>rfl
 |n+1,u=>by
  have d:=zxe o g (p:=p) n oM;have f:=zDk (s:=s) (n:=n) oM;have j:zid s (vu p) (n:Int)↔¬((bxK s n).meet (vu p)).mt:=by unfold zid;rw[XU,f]
  by_cases c:ndK s n≠1/\onS s p n=true
  .obtain⟨_,q,t⟩:=zDj c.2 (zoW o oM g c.1);have ek:bxK s n=zao s n:=Xe c.1;rw[ek]at j f;rw[zmT (by rw[f];exact q),zjk c];unfold zbX at d ⊢;rw[Km,KF,Xe (decide_eq_true (j.2 t)),Jl,JY,Jz,JG,KF,Xe c.2,d]
  rw[ztm c]
  by_cases a:(bxK s n).mt
  .rw[zCR (by rw[f];exact a)];exact d
  have nk:ndK s n≠1:=λe=>a (by unfold bxK;rw[Xc λh=>h e];exact uu)
  have no:¬onS s p n=true:=λh=>c ⟨nk,h⟩
  rw[zmT (by rw[f];exact a)];unfold zbX at d ⊢;rw[Km,KF]
  split
  .rw[Jl,JY,Jz,JG,KF,Xc no,d]
  rw[Jl,XE,d]
def ztC{s:Sc}{p:Pt}(f:qy s)(e:∀m∈s.ns,1<=m.k/\m.k<=3)(d:zty p):∀n,n<=s.ns.length->atL s p n=[]
 |0,_=>rfl
 |n+1,g=>by
  rw[ztm λc=>(zDj c.2 (zoW f oM e c.1)).1 d];exact ztC f e d n oM
def zFD{s:Sc}(d:qy s)(c:∀m∈s.ns,1<=m.k/\m.k<=3):atQ s p=zaK s p:=by
 unfold atQ zaK atA
 split
 .rename_i h;rw[ztC d c h _ (Xj _)];rfl
 unfold onN cdT zu6 enA;rw[zxe d c _ (Xj _)]
def inL(s:Sc)(r:Rc):Nat->LV
 |0=>[]
 |n+1=>if ndK s n≠1/\¬((zao s n).meet r).mt then(n:Int)::inL s r n else inL s r n
def zxf(s:Sc)(r:Rc):∀n,n<=s.ns.length->(zbX s r (enN (bxA s) n)).reverse=inL s r n
 |0,_=>rfl
 |n+1,m=>by
  have f:=zxf s r n oM;have d:=zDk (s:=s) (n:=n) oM;have g:zid s r (n:Int)↔¬((bxK s n).meet r).mt:=by unfold zid;rw[XU,d]
  unfold inL
  by_cases c:ndK s n≠1/\¬((zao s n).meet r).mt
  .have ek:bxK s n=zao s n:=Xe c.1;rw[ek]at g d;have j:¬(zao s n).mt:=λk=>c.2 (by unfold Rc.meet;rw[Xe (.inl k)];exact uu)
   rw[zmT (by rw[d];exact j),Xe c];unfold zbX at f ⊢;rw[Km,KF,Xe (decide_eq_true (g.2 c.2)),Jl,JY,Jz,JG,f]
  rw[Xc c]
  by_cases a:(bxK s n).mt
  .rw[zCR (by rw[d];exact a)];exact f
  have nk:ndK s n≠1:=λe=>a (by unfold bxK;rw[Xc λh=>h e];exact uu)
  have ek:bxK s n=zao s n:=Xe nk;have no:¬zid s r (n:Int):=λh=>c ⟨nk,by rw[←ek];exact g.1 h⟩
  rw[zmT (by rw[d];exact a)];unfold zbX at f ⊢;rw[Km,KF,Xc (by simpa using no),Jl,XE,f]
def zDl(s:Sc)(r:Rc):cdT s r=inL s r s.ns.length:=zxf s r _ (Xj _)
def zza{s:Sc}(h:qy s):atQ s p=zaK s p:=zFD h (ztn h)
def zif{f:Pt->Pt->Pt}(q:LU)(p:Pt):bnd f (q++[p])=f (if q=[] then p else bnd f q) p:=by
 by_cases h:q=[]
 .rw[Xe h,h,zxP]
 rw[Xc h,zAA h]
def ptb{T:TypeId}{p q:Pt}(h:p=q):some (Mem.box T (ptE p))=some (Mem.box T (ptE q)):=by rw[h]
def zIl(rs:LQ):CX 101 [.sl zk rs] (pbE rs):=by
 refine zc func101 ?_
 refine⟨Nat,λi=>⟨[(8,i64 i),(7,pr ((rs.take i).flatten≠[])),(6,.loc 3 0),(5,.loc 2 0),(3,.loc 1 0),(2,.loc 0 0),(0,.sl zk rs)],
  [(3,.box 28 (ptE (bnd mxP (rs.take i).flatten))),(2,.box 28 (ptE (bnd mnP (rs.take i).flatten))),(1,.box 28 (ptE zp)),(0,.box 28 (ptE zp))],4,66,0⟩,
  λi=>i<=rs.length/\(i=0∨kC rs),λi=>rs.length-i,0,⟨Xh _,.inl rfl⟩,?_,?_⟩
 .refine(qS (t:=7) rfl (zd (q:=(rs.take 0).flatten≠[]) (λk=>k rfl))).trans (zf [0,1,2,3])
 rintro i ⟨hi,m⟩
 have hi:i<=rs.length:=hi;have m:i=0∨kC rs:=m
 have o:(¬i<rs.length∨¬kC rs)->LE (SV.tup [wk (bnd mnP (rs.take i).flatten),wk (bnd mxP (rs.take i).flatten),pr ((rs.take i).flatten≠[])]) (pbE rs):=λh=>by
  by_cases sg:zcS rs
  .have h:¬i<rs.length:=h.elim id λk=>absurd sg.2 k
   have e:rs.take i=rs:=Xi oM;unfold pbE loR hiR;rw[e,Xe sg,Xe sg];exact zaQ (.C (.C (.cons (zC ⟨λ_=>sg,λ_=>sg.1⟩) .nil)))
  have e:(rs.take i).flatten=[]:=by
   rcases m with m|m
   .rw[m];rfl
   have h:¬i<rs.length:=h.elim id λk=>absurd m k
   rw[Xi oM];exact Decidable.byContradiction λk=>sg ⟨k,m⟩
  unfold pbE loR hiR;rw[Xc sg,Xc sg,e];exact zaQ (.C (.C (.cons (zC ⟨λk=>absurd rfl k,λk=>absurd k sg⟩) .nil)))
 intro A;have last:∀h:(¬i<rs.length∨¬kC rs),LE (SV.tup [wk (bnd mnP (rs.take i).flatten),wk (bnd mxP (rs.take i).flatten),pr ((rs.take i).flatten≠[])]) (pbE rs):=o;refine⟨λg=>?_,λg=>?_⟩;rotate_left
 .have g:¬(i:Int)<(rs.length:Int):=g;exact wd<|wh<|last (.inl oM)
 have g:(i:Int)<(rs.length:Int):=g;refine wg (zhs rs)<|⟨λd=>?_,λd=>?_⟩;rotate_left
 .exact wd<|wh<|last (.inr d)
 have d:kC rs:=d;obtain⟨x,w⟩:∃x,rs[i]?=some x:=⟨_,Xb oM⟩;have get:∀y,rs[(i:Int).toNat]?=some y->y=x:=λy u=>Xl ((show rs[i]?=some y from u).symm.trans w)
 have ft:=zoI w;clear last o;obtain⟨c,s⟩:∃q,q=(rs.take i).flatten:=⟨_,rfl⟩;rw[←s]at ft
 refine⟨Nat,λj=>⟨[(9,i64 j),(8,i64 i),(7,pr (c++x.take j≠[])),(6,.loc 3 0),(5,.loc 2 0),(3,.loc 1 0),(2,.loc 0 0),(0,.sl zk rs)],
  [(3,.box 28 (ptE (bnd mxP (c++x.take j)))),(2,.box 28 (ptE (bnd mnP (c++x.take j)))),(1,.box 28 (ptE zp)),(0,.box 28 (ptE zp))],4,66,0⟩,
  λj=>j<=x.length,λj=>x.length-j,0,Xh _,?_,?_⟩
 .have e:c++x.take 0=(rs.take i).flatten:=by rw[QC,XE,s]
  refine(qS (t:=7) rfl (zC (q:=c++x.take 0≠[]) (by rw[e]))).trans (zt [0,1,2,3] ⟨ptb (by rw[e]),ptb (by rw[e]),rfl,rfl,tV⟩)
 intro j v;have v:j<=x.length:=v;refine wb λy u=>?_;rw[get y u];intro _;refine⟨λf:(j:Int)<(x.length:Int)=>?_,λf:¬(j:Int)<(x.length:Int)=>?_⟩
 .refine wb λy u=>?_;rw[get y u];refine wb λp(B:x[j]?=some p)=>?_;have n:c++x.take (j+1)=(c++x.take j)++[p]:=by rw[Xn,B,XL];rfl
  have ne:(c++x.take j)++[p]≠[]:=by simp
  refine⟨λk:¬(c++x.take j≠[])=>?_,λk:¬¬(c++x.take j≠[])=>?_⟩
  .have k:c++x.take j=[]:=Xa.1 k;refine wd<|wh<|wa<|⟨j+1,by show j+1<=x.length;omega,(qS (t:=7) rfl (zH (q:=c++x.take (j+1)≠[]) (by rw[n];exact ne))).trans (zt [0,1,2,3] ⟨ptb (p:=mxP p p) ?_,ptb (p:=mnP p p) ?_,rfl,rfl,tV⟩),oN⟩
   .rw[n,zif,Xe k]
   rw[n,zif,Xe k]
  have k:c++x.take j≠[]:=Xa.1 k;refine wa<|⟨j+1,by show j+1<=x.length;omega,(qS (t:=7) rfl (zC (q:=c++x.take (j+1)≠[]) ⟨λ_=>by rw[n];exact ne,λ_=>k⟩)).trans (zt [0,1,2,3] ⟨ptb (p:=mxP (bnd mxP (c++x.take j)) p) ?_,ptb (p:=mnP (bnd mnP (c++x.take j)) p) ?_,rfl,rfl,tV⟩),oN⟩
  .rw[n,zif,Xc k]
  rw[n,zif,Xc k]
 have z:x.take j=x:=Xi oM;have e:c++x.take j=(rs.take (i+1)).flatten:=by rw[z,ft]
 refine wa ?_;refine⟨i+1,⟨by show i+1<=rs.length;omega,.inr d⟩,(qS (t:=7) rfl (zC (q:=(rs.take (i+1)).flatten≠[]) (by rw[e]))).trans (zt [0,1,2,3] ⟨ptb (by rw[e]),ptb (by rw[e]),rfl,rfl,tV⟩),oN⟩
def zqJ(n:Int)(h: -1048576<=n/\n<=1048576):CX 102 [i64 n] (i64 (n/256)):=by
 refine zc func102 ?_;obtain⟨q,d⟩:∃q,q=n.tdiv 256:=⟨_,rfl⟩;have c:n.tdiv 256=n/256∨n.tdiv 256-1=n/256:=by rcases tdm (m:=n) (n:=256) dC with h|h <;> omega
 refine Dv.any dC ?_;rw[←d]at c ⊢;(iterate 2 refine wa ?_);refine⟨λg:n<q*256=>?_,λg:¬n<q*256=>?_⟩
 .exact wa<|ze oM
 exact ze oM
def zzb(h:zcS rs):Rc.canon ⟨(loR rs).x/256,(loR rs).y/256,-(-(hiR rs).x/256),-(-(hiR rs).y/256)⟩=zbV rs:=by
 have f:=zeN h;unfold zm at f
 have e:(⟨(loR rs).x/256,(loR rs).y/256,-(-(hiR rs).x/256),-(-(hiR rs).y/256)⟩:Rc)=zaX rs:=by
  unfold zaX upI;rw[show(2:Int)^8=256 from by decide,show-(-(hiR rs).x/256)=((hiR rs).x+256-1)/256 by omega,show-(-(hiR rs).y/256)=((hiR rs).y+256-1)/256 by omega]
 have d:zbV rs=if (zaX rs).x1<=(zaX rs).x0∨(zaX rs).y1<=(zaX rs).y0 then qj else zaX rs:=kI h
 rw[e,d]
 by_cases c:(zaX rs).x1<=(zaX rs).x0∨(zaX rs).y1<=(zaX rs).y0
 .rw[Xe c,Rc.canon_pos (.inr c)]
 rw[Xc c];refine Rc.canon_neg λk=>k.elim (λk=>k ?_) c
 rw[←e];unfold Rc.ok zbb;dsimp only;omega
def zu8(rs:LQ):CX 63 [.sl zk rs] (wr (zbV rs)):=by
 refine zc func63<|wg (zIl rs)<|⟨λh=>uR (p:=qj) (Xe h).symm,λh=>?_⟩;have h:=Xa.1 h;have c:=zeN h;unfold zm at c;refine wd<|wg (zqJ _ oM)<|wg (zqJ _ oM)<|wa<|wg (zqJ _ oM) ?_;(iterate 2 refine wa ?_);exact wg (zqJ _ oM)<|wa<|wg (zql ⟨(loR rs).x/256,(loR rs).y/256,-(-(hiR rs).x/256),-(-(hiR rs).y/256)⟩)<|wh<|uR (zzb h)
def zxg(a b:Rc):CX 62 [wr a,wr b] (wr (zbW a b)):=by
 refine zc func62<|wg (zfz a)<|⟨λh=>?_,λh=>?_⟩
 .exact wg (zql b)<|uR (Xe h).symm
 refine wg (zfz b)<|⟨λk=>?_,λk=>?_⟩
 .exact uR (by unfold zbW;rw[Xc h,Xe k])
 exact uR (p:=⟨min a.x0 b.x0,min a.y0 b.y0,max a.x1 b.x1,max a.y1 b.y1⟩) (by unfold zbW;rw[Xc h,Xc k])
def zzc(a b:Rc):zbW (zbW qj a) b=zbW a b:=by
 rw[show zbW qj a=a.canon from Xe uu]
 by_cases h:a.mt
 .rw[Rc.canon_pos h];unfold zbW;rw[Xe uu,Xe h]
 rw[Rc.canon_neg h]
def zIm(s:Sc)(i:Int)(ht:ji s):CX 32 [wq s,i64 i] (wr (zao s i)):=by
 refine zc func32<|wd<|wg (zwV s i ht)<|wg (zu8 (vq s i))<|wg (zwW s i ht)<|wg (zu8 (vT s i)) ?_;refine wg (zxg _ _)<|wh<|wd<|wg (zCJ s i ht)<|wg (zu8 (zdu s i))<|wg (zxg (zbW (zbV (vq s i)) (zbV (vT s i))) (zbV (zdu s i))) ?_;exact wh<|uR (show _=zbW (zbW (zbW qj (zbV (vq s i))) (zbV (vT s i))) (zbV (zdu s i)) by rw[zzc])
def zxh(s:Sc)(r:Rc):∀n,(inL s r n).length<=n
 |0=>Xj _
 |n+1=>by
  have:=zxh s r n;unfold inL;split <;> (try rw[Xm]) <;> omega
def zDm(s:Sc)(r:Rc)(ht:ji s)(A:s.ns.length<=8):CX 13 [wq s,wr r] (.sl zN ((inL s r s.ns.length).map (ndI s))):=by
 refine zc func13 ?_;have B:=zxh s r s.ns.length;intro v;refine wa ?_
 refine⟨Nat×LV,λ⟨j,q⟩=>⟨[(6,i64 ((j:Int)-1)),(5,.own 2),(3,.loc 1 0),(2,.loc 0 0)],[(0,.box 26 (scE s)),(1,.box 30 (rcE r)),(2,.arr 3 zN 1 (q.map (ndI s)))],3,41,0⟩,
  λ⟨j,q⟩=>j<=s.ns.length/\q++inL s r j=inL s r s.ns.length,λ⟨j,_⟩=>j,(s.ns.length,[]),⟨Xj _,rfl⟩,zB [(0,some 0),(1,some 1),(2,none)],?_⟩
 rintro⟨j,q⟩ ⟨u,e⟩
 have u:j<=s.ns.length:=u;have e:q++inL s r j=inL s r s.ns.length:=e
 have w:(q.map (ndI s)).length<=8:=by
  have:=Xg List.length e;rw[Xr]at this;rw[Xv];omega
 refine⟨λg:0<=(j:Int)-1=>?_,λg=>?_⟩
 .obtain⟨k,rfl⟩:∃k,j=k+1:=⟨j-1,oM⟩;have ek:((k+1:Nat):Int)-1=(k:Int):=oM;have f:some (i64 (((k+1:Nat):Int)-1-1))=some (i64 ((k:Int)-1)):=by rw[ek]
  rw[show inL s r (k+1)=if ndK s k≠1/\¬((zao s k).meet r).mt then(k:Int)::inL s r k else inL s r k from rfl]at e;have sk:¬(ndK s k≠1/\¬((zao s k).meet r).mt)->q++inL s r k=inL s r s.ns.length:=λh=>by rw[Xc h]at e;exact e
  refine wc<|wb λn o=>?_;have o:s.ns[k]?=some n:=by rw[←o,ek];rfl
  have t:=zmQ o;refine⟨λc=>?_,λc=>?_⟩
  .have c:ndK s k≠1:=by rw[t];exact c
   refine wg (zIm s (((k+1:Nat):Int)-1) ht)<|wg (zHH (zao s (((k+1:Nat):Int)-1)) r)<|wg (zfz ((zao s (((k+1:Nat):Int)-1)).meet r))<|⟨λd=>?_,λd=>?_⟩
   .have d:¬((zao s k).meet r).mt:=by rw[ek]at d;exact d
    rw[Xe ⟨c,d⟩]at e;refine wb λm y=>?_;have em:ndI s k=m.id:=zjj (by rw[←y,ek]);refine⟨Int,zN,[m.id],rfl,wb3 ?_⟩;refine⟨[m.id],rfl,Ob.mk ⟨by show(((q.map (ndI s)).length:Int)+1)*8<=_;omega,by rw[X2];omega,dC,λx z=>by rw[Xt.1 z];rfl⟩ ?_⟩;exact wa<|⟨(k,q++[(k:Int)]),⟨oM,by rw[XL];exact e⟩,zQ [0,1,4] ⟨f,rfl,rfl,rfl,tV⟩ ⟨rfl,rfl,aR (by rw[Xz,←em];rfl),tV⟩,oN⟩
   have d:¬¬((zao s k).meet r).mt:=by rw[ek]at d;exact d
   exact wa<|⟨(k,q),⟨oM,sk λh=>d h.2⟩,zQ [0,1,2] ⟨f,rfl,rfl,rfl,tV⟩ ⟨rfl,rfl,rfl,tV⟩,oN⟩
  have c:¬ndK s k≠1:=λh=>c (by rw[←t];exact h)
  exact wa<|⟨(k,q),⟨oM,sk λh=>c h.1⟩,zQ [0,1,2] ⟨f,rfl,rfl,rfl,tV⟩ ⟨rfl,rfl,rfl,tV⟩,oN⟩
 obtain rfl:j=0:=by have g:¬0<=(j:Int)-1:=g;omega
 exact z6 (by rw[←e];show _=(q++[]).map _;rw[XE])
def zIn{s:Sc}{n:Nat}(e:n+1<=s.ns.length)(h:ndK s n≠1/\onS s p n=true):(atA s p).take (atT s p (n+1))++[(n:Int)]=(atA s p).take (atT s p n):=by
 obtain⟨c,d⟩:=zw1 e h;rw[←d,Xn,c];rfl
def zIo(s:Sc)(p:Pt):(atA s p).take (atT s p 0)=atA s p:=Kc
def zDn(s:Sc)(p:Pt)(ht:ji s):CX 29 [wq s,wk p] (.sl zN (atA s p)):=by
 refine zc func29 ?_;have y:=zmR s p;intro t;refine wa<|⟨Nat,λj=>⟨[(6,i64 ((j:Int)-1)),(5,.own 2),(3,.loc 1 0),(2,.loc 0 0)],[(0,.box 26 (scE s)),(1,.box 28 (ptE p)),(2,.arr 3 zN 1 ((atA s p).take (atT s p j)))],3,33,0⟩,λj=>j<=s.ns.length,λj=>j,s.ns.length,Xj _,?_,?_⟩
 .exact zdI [(0,some 0),(1,some 1),(2,none)] ⟨rfl,rfl,zwU (by rw[show atT s p s.ns.length=0 from QT _];rfl),tV⟩
 rintro j m
 have m:j<=s.ns.length:=m;have u:((atA s p).take (atT s p j)).length<=1000:=by rw[Xp];omega
 refine⟨λg:0<=(j:Int)-1=>?_,λg=>?_⟩
 .obtain⟨k,rfl⟩:∃k,j=k+1:=⟨j-1,oM⟩;have ek:((k+1:Nat):Int)-1=(k:Int):=oM;have e:some (i64 (((k+1:Nat):Int)-1-1))=some (i64 ((k:Int)-1)):=by rw[ek]
  refine wb λn v=>?_;have o:=zmQ (show s.ns[k]?=some n by rw[←v,ek];rfl);refine⟨λc:¬n.k=1=>?_,λc=>?_⟩
  .refine wg (k_on s p (((k+1:Nat):Int)-1) ht)<|⟨λd=>?_,λd=>?_⟩
   .have f:ndK s k≠1/\onS s p k=true:=⟨by rw[o];exact c,by rw[ek]at d;exact d⟩;refine⟨Int,zN,[((k+1:Nat):Int)-1],rfl,wb3 ?_⟩;refine⟨[((k+1:Nat):Int)-1],rfl,Ob.mk ⟨by show((((atA s p).take (atT s p (k+1))).length:Int)+1)*8<=_;omega,by rw[X2];omega,dC,λx w=>by rw[Xt.1 w];rfl⟩ ?_⟩;exact wa<|⟨k,by show k<=_;omega,zQ [0,1,4] ⟨e,rfl,rfl,rfl,tV⟩ ⟨rfl,rfl,aR (by rw[ek];exact zIn m f),tV⟩,oN⟩
   have f:¬(ndK s k≠1/\onS s p k=true):=λh=>d (by rw[ek];exact h.2)
   exact wa<|⟨k,by show k<=_;omega,zQ [0,1,2] ⟨e,rfl,rfl,rfl,tV⟩ ⟨rfl,rfl,Xg (λq=>some (Mem.arr 3 zN 1 ((atA s p).take q))) (zqC f),tV⟩,oN⟩
  have f:¬(ndK s k≠1/\onS s p k=true):=λh=>c (by rw[←o];exact h.1)
  exact wa<|⟨k,by show k<=_;omega,zQ [0,1,2] ⟨e,rfl,rfl,rfl,tV⟩ ⟨rfl,rfl,Xg (λq=>some (Mem.arr 3 zN 1 ((atA s p).take q))) (zqC f),tV⟩,oN⟩
 obtain rfl:j=0:=by have g:¬0<=(j:Int)-1:=g;omega
 exact z6 (zIo s p)
def zDo{s:Sc}{l:LV}{q:Nat}{k:Int}{n:Nd}(c:l[q]?=some k)(d:s.ns[k.toNat]?=some n):(l.take q).map (ndI s)++[n.id]=(l.take (q+1)).map (ndI s):=by
 rw[Xn,c,Xz,←zjj d];rfl
def zzd(s:Sc)(p:Pt)(ht:ji s):CX 12 [wq s,wk p] (.sl zN (zaK s p)):=by
 refine zc func12 ?_;have m:=zmR s p;refine wg (zDn s p ht)<|⟨Nat,λq=>⟨[(7,i64 q),(6,.own 2),(5,.sl zN (atA s p)),(2,.loc 0 0)],[(0,.box 26 (scE s)),(2,.arr 3 zN 1 (((atA s p).take q).map (ndI s)))],3,30,0⟩,λq=>q<=(atA s p).length,λq=>(atA s p).length-q,0,Xh _,?_,?_⟩
 .exact zB [(0,some 0),(2,none)]
 rintro q d
 have d:q<=(atA s p).length:=d;have e:(((atA s p).take q).map (ndI s)).length<=1000:=by rw[Xv,Xp];omega
 intro j;refine⟨λg:(q:Int)<(atA s p).length=>?_,λg:¬(q:Int)<(atA s p).length=>?_⟩
 .refine wc<|wb λk(c:(atA s p)[q]?=some k)=>?_;refine Ob.mk (zwZ (Xf c)) λn f=>?_;refine⟨Int,zN,[n.id],rfl,wb3 ?_⟩;refine⟨[n.id],rfl,Ob.mk ⟨by show(((((atA s p).take q).map (ndI s)).length:Int)+1)*8<=_;omega,by rw[X2];omega,dC,λx h=>by rw[Xt.1 h];rfl⟩ ?_⟩;refine wa ?_
  exact⟨q+1,by show q+1<=(atA s p).length;omega,zdI [(0,some 0),(2,some 4)] ⟨rfl,aR (zDo c f),tV⟩,oN⟩
 exact z6 (by rw[Xi oM];rfl)
def zDp:ltS pgH:=by decide +kernel
def zze:qy pgH:=by decide +kernel
def zIp:zaK pgH ⟨5,5⟩=[5,7]/\zaK pgH ⟨256,5⟩=[]/\zaK pgH ⟨9,0⟩=[5,7]/\zqD pgH zp=[3,5]/\zqD pgH ⟨999,0⟩=[]/\onS pgH zp 1=true/\¬onS pgH zp 3=true:=by decide +kernel
def zFE:atQ pgH ⟨9,0⟩=[5,7]/\(cdT pgH ⟨0,0,4,4⟩).map (ndI pgH)=[5,7]/\(cdT pgH ⟨1,0,4,4⟩).map (ndI pgH)=[]:=by decide +kernel
def zeX:CX 8 [] (bl true):=by
 refine zc func8 ?_;have ht:=zfC zDp;obtain⟨o,q,s⟩:=zFE;obtain⟨c,d,e,f,g,h,j⟩:=zIp;refine wg zFn<|wg (zC2 pgH zDp zze dC)<|⟨λk=>absurd rfl k,λ_=>?_⟩;refine wg (zGo pgH ⟨9,0⟩ ht dC)<|⟨Int,zN,[5,7],rfl,wb0 ?_⟩;refine wg (zjl (atQ pgH ⟨9,0⟩) [5,7])<|⟨λk=>absurd o k,λ_=>?_⟩;refine wg (zjp pgH ⟨0,0,4,4⟩ dC)<|⟨Int,zN,[5,7],rfl,wb0 ?_⟩;refine wg (zjl ((cdT pgH ⟨0,0,4,4⟩).map (ndI pgH)) [5,7]) ?_
 refine⟨λk=>absurd q k,λ_=>?_⟩;refine wg (zjp pgH ⟨1,0,4,4⟩ dC) λm=>?_;refine⟨λk=>absurd (show(((cdT pgH ⟨1,0,4,4⟩).map (ndI pgH)).length:Int)=0 by rw[s];rfl) k,λ_=>?_⟩;refine wg (zGg pgH ⟨5,5⟩ ht)<|wg (zGg pgH ⟨256,5⟩ ht)<|⟨λ_=>?_,λk=>absurd (show(zaK pgH ⟨5,5⟩).headD 0=5 by rw[c];rfl) k⟩;refine⟨λ_=>?_,λk=>absurd (show 0<(zaK pgH ⟨5,5⟩).length by rw[c];decide) k⟩
 refine⟨λ_=>?_,λk=>absurd (show¬0<(zaK pgH ⟨256,5⟩).length by rw[d];decide) k⟩;refine wg (g_on pgH zp 1 ht)<|⟨λ_=>?_,λk=>absurd h k⟩;refine wg (g_on pgH zp 3 ht)<|⟨λ_=>?_,λk=>absurd j k⟩;refine wg (l_got pgH ⟨9,0⟩ ht)<|⟨Int,zN,[5,7],rfl,wb0 ?_⟩;refine wg (zjl (zaK pgH ⟨9,0⟩) [5,7])<|⟨λ_=>?_,λk=>absurd e k⟩;refine wg (zGh pgH zp ht)<|⟨Int,zN,[3,5],rfl,wb0 ?_⟩;refine wg (zjl (zqD pgH zp) [3,5]) ?_
 refine⟨λ_=>?_,λk=>absurd f k⟩;exact wg (zGh pgH ⟨999,0⟩ ht) λn=>zzP (show((zqD pgH ⟨999,0⟩).length:Int)=0 by rw[g];rfl)
def isN(f:Nat->Int×LX):LW->Nat->LW
 |[],_=>[]
 |n::r,j=>{ n with id:=(f j).1,path:=(f j).2 }::isN f r (j+1)
def isF{l:LW}(_:∀n∈l,ltN n)(j:Nat):Int×LX:=match l[j]? with
 |some n=>(n.id,n.path)
 |none=>(0,[])
def isG(f:Nat->Int×LX)(i:Nat)(q:LX)(j:Nat):Int×LX:=match Nat.beq j i with
 |true=>(-1,q)
 |false=>f j
def isL(l:LW)(K:Nat):LT:=(K,.garr 60 47 (zeU l (K+1)))::zib l (K+1)
def isI{i m:Nat}(_:i<=m):Nat:=i
def sgM(x y:Sg):Sg:=⟨y.v,⟨IntKind.i64.wrap (x.a.x+100000),y.a.y⟩,y.b,y.c⟩
end
section
variable(W H:Int)(bg:Pix){l:LW}(p:Pt)(r:Rc)
def isB(l:LW):LT:=[(0,.box 26 (scE ⟨W,H,bg,l⟩)),(1,.box 28 (ptE p)),(2,.box 30 (rcE r))]
def isR(l:LW):LP:=[(9,.dptr (ixT ⟨W,H,bg,l⟩)),(5,.loc 2 0),(4,.loc 1 0),(3,.loc 0 0)]
def isM(_:∀n∈l,ltN n)(f:Nat->Int×LX):LT:=isL (isN f l 0) 5++((l.length+6,.box 26 (scO ⟨W,H,bg,l⟩ 5))::isB W H bg p r l)
def isS(c:∀n∈l,ltN n)(i:Nat)(f:Nat->Int×LX):St:=⟨(70,i64 i)::(69,i64 l.length)::(8,.loc (l.length+6) 0)::isR W H bg l,isM W H bg p r c f,l.length+7,148,0⟩
def isS2(c:∀n∈l,ltN n)(i:Nat)(f:Nat->Int×LX)(n k:Nat)(q:LX):St:=⟨(85,i64 k)::(84,i64 n)::(11,i64 i)::(70,i64 i)::(69,i64 l.length)::(8,.loc (l.length+6) 0)::isR W H bg l,isM W H bg p r c (isG f i q),l.length+7,148,0⟩
def isE(l:LW):St:=⟨isR W H bg l,isB W H bg p r l,3,148,0⟩
def isA(t u n:Nat)(l:LW)(x:Nat×LV)(a b:LV):St:=⟨(t,i64 (x.1:Int))::(u,i64 n)::(13,.own 3)::(14,.own 4)::isR W H bg l,(3,zqI a)::(4,zqI b)::isB W H bg p r l,5,148,0⟩
end
def l_hitIso(s:Sc)(p:Pt)(r:Rc):CX 3 [wq s,wk p,wr r] (bl true):=by
 obtain⟨W,H,bg,l⟩:=s
 by_cases z:ltS ⟨W,H,bg,l⟩/\qy ⟨W,H,bg,l⟩
 rotate_left
 .refine zc func3<|wg (zxc _ p (.inl rfl))<|⟨λk=>absurd rfl k,λ_=>?_⟩;refine wg (zfG _ r (.inl rfl))<|⟨λk=>absurd rfl k,λ_=>?_⟩;refine wg (zxc _ p (.inr rfl))<|⟨λk=>absurd rfl k,λ_=>?_⟩;refine wg (zfG _ r (.inr rfl))<|⟨λk=>absurd rfl k,λ_=>?_⟩;refine wg (zs9 ⟨W,H,bg,l⟩)<|⟨λ_=>zb.to _ zeX rfl .refl,λh=>?_⟩;have v:ltS ⟨W,H,bg,l⟩:=Xa.1 h;refine wg (zbQ ⟨W,H,bg,l⟩ (zfC v).tame) ?_
  exact⟨λ_=>zb.to _ zeX rfl .refl,λh=>absurd ⟨v,Xa.1 h⟩ z⟩
 obtain⟨v,F⟩:=z;have ht:=zfC v;have t:l.length<=8:=by have S:¬(8<l.length/\l.length<=64):=v.1;have T:l.length<=64:=yR F;omega
 have o:∀n∈l,ltN n:=λn R=>v.2 n (by rw[Xi (by show l.length<=_;omega)];exact R)
 refine zby tok func3 rfl rfl rfl<|zaz.cut tok mix 8 (ι:=Unit) (λ_=>isE W H bg p r l) (λ_=>True) ?_ (λ_ _=>?_)
 .have D:=zs9 ⟨W,H,bg,l⟩;have E:=zbQ ⟨W,H,bg,l⟩ ht.tame;have M:=zy6 W H bg l t o;have N:=zC9 W H bg l v F t o
  rcases l with _|⟨a,_|⟨b,_|⟨c,_|⟨d,_|⟨e,_|⟨f,_|⟨g,_|⟨h,_|⟨i,r⟩⟩⟩⟩⟩⟩⟩⟩⟩
  rotate_right
  .simp only[Xm]at t;omega
  all_goals
   refine wg (zxc _ p (.inl rfl))<|⟨λk=>absurd rfl k,λ_=>?_⟩;refine wg (zfG _ r (.inl rfl))<|⟨λk=>absurd rfl k,λ_=>?_⟩;refine wg (zxc _ p (.inr rfl))<|⟨λk=>absurd rfl k,λ_=>?_⟩;refine wg (zfG _ r (.inr rfl))<|⟨λk=>absurd rfl k,λ_=>?_⟩;refine wg D<|Br.mk (λk=>absurd v k) (λ_=>?_);refine wg E<|Br.mk (λk=>absurd F k) (λ_=>?_)
   refine zb.give [] (csN o+1) _ [] (clM _) _ M .refl rfl rfl rfl trivial rfl ⟨⟨rfl,zic _ 1⟩,by repeat' constructor⟩<|zb.lend (List.range' 5 (csN o+1)) _ (clM _) _ N .refl rfl rfl rfl ⟨⟨_,rfl,rfl,zkz _ 1⟩,by repeat' constructor⟩ rfl ⟨⟨rfl,zic _ 1⟩,by repeat' constructor⟩ rfl ⟨rfl,by repeat' constructor⟩<|⟨λk=>absurd rfl k,λ_=>?_⟩;intro O
   refine⟨Nat×(Nat->Int×LX),λx=>isS W H bg p r o x.1 x.2,λx=>x.1<=csN o,λx=>csN o-x.1,(0,isF o),Xh _,kM (idT (csN o+7)) rfl rfl rfl ⟨rfl,rfl,rfl,rfl,rfl,rfl,rfl,tV⟩ ⟨⟨_,rfl,rfl,λi x m=>by rcases i with _|_|_|_|_|_|_|_|i <;> first|(cases m;exact⟨_,rfl,rfl⟩)|cases m⟩,by repeat' constructor⟩,?_⟩
   rintro⟨i,f⟩ hi
   rcases i with _|_|_|_|_|_|_|_|_|i
   rotate_right
   .have hi:i+9<=csN o:=hi;simp only[csN,Xm,Xo]at hi;omega
   all_goals
    refine⟨λg=>?_,λg=>?_⟩
    .first
      |exact absurd (Qm.1 g) (Yb.2 (Xw rfl))
      |refine Ob.mk ⟨Kv _,g⟩ ?_
       refine Ob.mk ⟨Kv _,g⟩ λx m=>?_;obtain rfl:=Xl m;refine Ob.mk ⟨Kv _,g⟩<|Ob.mk ⟨Kv _,g⟩ λx m=>?_;obtain rfl:=Xl m;intro C;have C:(f (isI hi)).2.length<=281474976710656:=C
       refine⟨Nat×LX,λy=>isS2 W H bg p r o (isI hi) f (f (isI hi)).2.length y.1 y.2,λy=>y.1<=(f (isI hi)).2.length/\y.2.length=(f (isI hi)).2.length,λy=>(f (isI hi)).2.length-y.1,(0,(f (isI hi)).2),⟨Xh _,rfl⟩,
        kM (idT (csN o+7)) rfl rfl rfl ⟨rfl,rfl,rfl,rfl,rfl,rfl,rfl,rfl,rfl,rfl,tV⟩ ⟨⟨_,rfl,rfl,λi x m=>by rcases i with _|_|_|_|_|_|_|_|i <;> first|(cases m;exact⟨_,rfl,rfl⟩)|cases m⟩,by repeat' constructor⟩,?_⟩
       rintro⟨k,q⟩ ⟨K,w⟩
       have K:k<=(f (isI hi)).2.length:=K;have w:q.length=(f (isI hi)).2.length:=w;refine⟨λI:(k:Int)<(f (isI hi)).2.length=>?_,λI=>?_⟩
       .have gk:0<=(k:Int)/\(k:Int)<q.length:=⟨Kv _,by rw[w];exact I⟩;refine Ob.mk ⟨Kv _,g⟩<|Ob.mk ⟨Kv _,g⟩ λx m=>?_;obtain rfl:=Xl m;refine Ob.mk gk<|Ob.mk gk λx m=>Ar.wrap<|Ob.mk gk<|Ob.mk gk λy L=>?_;refine⟨sgM x y,rfl,?_⟩;refine wa ?_
        exact⟨(k+1,q.set (k:Int).toNat (sgM x y)),⟨by show k+1<=_;omega,by show(q.set _ _).length=_;rw[XO];exact w⟩,
         kM (idT (csN o+7)) rfl rfl rfl ⟨rfl,rfl,rfl,rfl,rfl,rfl,rfl,rfl,rfl,rfl,tV⟩ ⟨⟨_,rfl,rfl,λi x m=>by rcases i with _|_|_|_|_|_|_|_|i <;> first|(cases m;exact⟨_,rfl,rfl⟩)|cases m⟩,by repeat' constructor⟩,oN⟩
       refine Ar.fit (by dsimp only[isI];decide) ?_;exact⟨(_,isG f (isI hi) q),X1 (Qm.1 g),kM (idT (csN o+7)) rfl rfl rfl ⟨rfl,rfl,rfl,rfl,rfl,rfl,rfl,tV⟩ ⟨⟨_,rfl,rfl,λi x m=>by rcases i with _|_|_|_|_|_|_|_|i <;> first|(cases m;exact⟨_,rfl,rfl⟩)|cases m⟩,by repeat' constructor⟩,J0 (Qm.1 g) (XZ _)⟩
    first
     |exact absurd (Qm.2 (Xw rfl)) g
     |exact⟨(),tV,zf [0,1,2]⟩
 obtain⟨A,hA⟩:∃A,A=atQ ⟨W,H,bg,l⟩ p:=⟨_,rfl⟩;obtain⟨B,hB⟩:∃B,B=(cdT ⟨W,H,bg,l⟩ r).map (ndI ⟨W,H,bg,l⟩):=⟨_,rfl⟩;have D:=zGn ⟨W,H,bg,l⟩ p ht t;have E:=zo4 ⟨W,H,bg,l⟩ r t;rw[←hA]at D;rw[←hB]at E;refine zaz.vc tok mix<|wd<|zb.fresh (zqI A) (.own 0) D rfl (qY _) (.inr λ_ _=>rfl)<|zb.fresh (zqI B) (.own 0) E rfl (qY _) (.inr λ_ _=>rfl)<|wh λP=>?_
 refine⟨Nat×LV,λx=>isA W H bg p r 113 112 A.length l x x.2 B,λx=>x.1<=A.length/\x.2.length=A.length,λx=>A.length-x.1,(0,A),⟨Xh _,rfl⟩,
  kM (idT 5) rfl rfl rfl ⟨rfl,rfl,rfl,rfl,rfl,rfl,rfl,rfl,tV⟩ ⟨rfl,rfl,rfl,rfl,rfl,tV⟩,?_⟩
 rintro⟨i,q⟩ ⟨hi,w⟩
 have hi:i<=A.length:=hi;have w:q.length=A.length:=w;refine⟨λg:(i:Int)<A.length=>?_,λg=>?_⟩
 .have gi:0<=(i:Int)/\(i:Int)<q.length:=oM;refine Ob.mk gi (Ob.mk gi ?_);intro y L;refine⟨-7,rfl,?_⟩;exact wa<|⟨(i+1,q.set (i:Int).toNat (-7)),⟨by show i+1<=_;omega,by show(q.set _ _).length=_;rw[XO];exact w⟩,kM (idT 5) rfl rfl rfl ⟨rfl,rfl,rfl,rfl,rfl,rfl,rfl,rfl,tV⟩ ⟨rfl,rfl,rfl,rfl,rfl,tV⟩,oN⟩
 intro Q
 refine⟨Nat×LV,λx=>isA W H bg p r 122 121 B.length l x q x.2,λx=>x.1<=B.length/\x.2.length=B.length,λx=>B.length-x.1,(0,B),⟨Xh _,rfl⟩,
  kM (idT 5) rfl rfl rfl ⟨rfl,rfl,rfl,rfl,rfl,rfl,rfl,rfl,tV⟩ ⟨rfl,rfl,rfl,rfl,rfl,tV⟩,?_⟩
 rintro⟨j,u⟩ ⟨J,G⟩
 have J:j<=B.length:=J;have G:u.length=B.length:=G;refine⟨λg:(j:Int)<B.length=>?_,λg=>?_⟩
 .have gj:0<=(j:Int)/\(j:Int)<u.length:=oM;refine Ob.mk gj (Ob.mk gj ?_);intro y L;refine⟨-7,rfl,?_⟩;exact wa<|⟨(j+1,u.set (j:Int).toNat (-7)),⟨by show j+1<=_;omega,by show(u.set _ _).length=_;rw[XO];exact G⟩,kM (idT 5) rfl rfl rfl ⟨rfl,rfl,rfl,rfl,rfl,rfl,rfl,rfl,tV⟩ ⟨rfl,rfl,rfl,rfl,rfl,tV⟩,oN⟩
 refine wc<|wg (zGo ⟨W,H,bg,l⟩ p ht t)<|wg (zzd ⟨W,H,bg,l⟩ p ht)<|wg (zjl (atQ ⟨W,H,bg,l⟩ p) (zaK ⟨W,H,bg,l⟩ p))<|⟨λ_=>?_,λk=>absurd (zza F) k⟩;refine wg (zjp ⟨W,H,bg,l⟩ r t)<|wg (zDm ⟨W,H,bg,l⟩ r ht t)<|wg (zjl ((cdT ⟨W,H,bg,l⟩ r).map (ndI ⟨W,H,bg,l⟩)) ((inL ⟨W,H,bg,l⟩ r l.length).map (ndI ⟨W,H,bg,l⟩)))<|⟨λ_=>?_,λk=>absurd (by rw[zDl]) k⟩;exact zb.to _ zeX rfl .refl
end Go.Gs
