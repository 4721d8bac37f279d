/- Strokes of many polylines, both texts. -/
import Derived.Test.YtakicgnbhdpknaaGreatDoorPBC
set_option maxRecDepth 100000
set_option maxHeartbeats 8000000
set_option linter.all false
namespace Go.Gs
open Proofs.Tryz
open Go.Proofs
def za7(l:LZ)(pen:Pen):LQ:=l.flatMap λp=>(kA p pen).1
variable{l:LZ}{pen:Pen}{i:Nat}
def znY{x:Pl}(h:l[i]?=some x):za7 (l.take (i+1)) pen=za7 (l.take i) pen++(kA x pen).1:=by
 unfold za7;rw[Xm,h,Qy];simp
def zet{pen:Pen}:∀{l:LZ},(∀p∈l,(kA p pen).2=0)->qo l pen=(za7 l pen,0)
 |[],_=>rfl
 |p::r,h=>by
  have d:=zet λq b=>h q (.tail _ b)
  unfold qo;rw[qK (h p (.head _)),d];rfl
def zdd{pen:Pen}:∀{l:LZ} {i:Nat} {x:Pl},l[i]?=some x->(∀p∈l.take i,(kA p pen).2=0)->¬(kA x pen).2=0->qo l pen=([],(kA x pen).2)
 |p::r,0,x,h,_,b=>by
  cases h
  unfold qo;rw[Xe b]
 |p::r,i+1,x,h,d,b=>by
  have g:=zdd (l:=r) (i:=i) h (λq f=>d q (by rw[Kt];exact .tail _ f)) b;unfold qo;rw[qK (d p (by rw[Kt];exact .head _)),g];exact Xe b
variable{p:Pl}
def zde(h:(kA p pen).2=0)(d:p.pts.length<=4096):vY (kA p pen).1/\qe (kA p pen).1<=4096/\(kA p pen).1.length<=10000:=by
 have rc:=ziI (pen:=pen) d;unfold kA at h ⊢
 split at h <;> rename_i f
 .cases h
 rw[Xc f]
 split at h <;> rename_i g
 .cases h
 rw[Xc g]
 split at h <;> rename_i j
 .cases h
 rw[Xc j]
 split at h <;> rename_i b
 .cases h
 rw[Xc b]
 split at h <;> rename_i k
 .cases h
 rw[Xc k];exact⟨Xa.1 b,oN,rc.2⟩
def zgk{pen:Pen}:∀{l:LZ},(∀p∈l,(kA p pen).2=0)->(∀p∈l,p.pts.length<=4096)->vY (za7 l pen)/\qe (za7 l pen)<=4096*l.length/\(za7 l pen).length<=10000*l.length
 |[],_,_=>⟨λr g=>(by cases g),Xj 0,Xj 0⟩
 |p::r,h,d=>by
  obtain⟨j,n,o⟩:=zgk (l:=r) (λq b=>h q (.tail _ b)) (λq b=>d q (.tail _ b));obtain⟨f,k,m⟩:=zde (h p (.head _)) (d p (.head _));have e:za7 (p::r) pen=(kA p pen).1++za7 r pen:=rfl;rw[e,zDy,Xq,Xn];refine⟨λq b=>?_,oM,oM⟩
  rcases Xt.1 b with b|b
  .exact f q b
  exact j q b
def zhr{P:Pl->Prop}{x:Pl}(h:l[i]?=some x)(d:∀p∈l.take i,P p)(f:P x):∀p∈l.take (i+1),P p:=by
 intro p b;rw[Xm,h]at b
 rcases Xt.1 b with b|b
 .exact d p b
 simp at b;rw[b];exact f
def zxG(l:LZ)(pen:Pen)(y:l.length<=16777216)(s:∀q∈l,q.pts.length<=4096):CX 177 [.sl plE l,ws pen] (rgE (qw l pen)):=by
 refine zc func177 ?_;have b:qw l pen=if¬kE pen then([],13) else if (qo l pen).2≠0 then([],(qo l pen).2) else if 4096<qe (qo l pen).1 then([],5) else((qo l pen).1,0):=rfl
 refine wg (ze5 pen)<|⟨λk=>?_,λk=>?_⟩
 .have k:¬kE pen:=k;exact qJ (by rw[b,Xe k])
 have k:kE pen:=Xa.1 k;rw[kI k]at b;intro v;refine⟨Nat,λi=>⟨[(3,.loc 0 0),(6,.own 1),(16,.sl plE l),(17,i64 l.length),(18,i64 i)],[(0,.box 61 (jg pen)),(1,.arr 148 zk 1 (za7 (l.take i) pen))],2,43,0⟩,λi=>i<=l.length/\∀q∈l.take i,(kA q pen).2=0,λi=>l.length-i,0,?_,?_,?_⟩
 .exact⟨Xh _,λq r=>by cases r⟩
 .exact zC [(0,some 0),(1,none)]
 rintro i ⟨w,f⟩
 obtain⟨o,t,u⟩:=zgk f λq r=>s q (XO r)
 rw[Xo]at t u;refine⟨λg:(i:Int)<l.length=>?_,λg:¬(i:Int)<l.length=>?_⟩
 .refine wb λx(m:l[i]?=some x)=>?_;have h:=s x (Xf m);refine wg (zt8 x pen h)<|⟨λz=>?_,λz=>?_⟩
  .have z:¬(kA x pen).2=0:=z;refine qJ ?_;rw[b,zdd m f z];exact Xe z
  have z:(kA x pen).2=0:=Xa.1 z;obtain⟨A,B,C⟩:=zde z h;refine⟨(kA x pen).1,rfl,Ob.mk ⟨(by show _*(24:Int)<=_;omega),oM,dC,λ_ _=>rfl⟩ ?_⟩;exact wa<|⟨i+1,⟨oM,zhr m f z⟩,zt [0,3] ⟨rfl,aR (znY m).symm,tV⟩,oN⟩
 have j:l.take i=l:=Xi oM;rw[j]at f o;rw[zet f,qK rfl]at b;have n:za7 (l.take i) pen=za7 l pen:=by rw[j]
 refine wg (zlN (za7 (l.take i) pen) oM)<|⟨λd=>?_,λd=>?_⟩
 .have d:(4096:Int)<(if vY (za7 (l.take i) pen) then(qe (za7 (l.take i) pen):Int) else 0):=d;rw[j,Xe o]at d;exact qJ (by rw[b,Xe oN])
 have d:¬(4096:Int)<(if vY (za7 (l.take i) pen) then(qe (za7 (l.take i) pen):Int) else 0):=d;rw[j,Xe o]at d;rw[Xc oN]at b;rw[b];exact zO (z6 n) .refl
def zxH(l:LZ)(pen:Pen)(F:l.length<=16777216)(t:∀q∈l,q.pts.length<=4096):CX 158 [.sl plE l,ws pen] (rgE (qw l pen)):=by
 refine zc func158 ?_;have b:qw l pen=if¬kE pen then([],13) else if (qo l pen).2≠0 then([],(qo l pen).2) else if 4096<qe (qo l pen).1 then([],5) else((qo l pen).1,0):=rfl
 refine wg (zc9 pen)<|⟨λk=>?_,λk=>?_⟩
 .have k:¬kE pen:=k;exact qJ (by rw[b,Xe k])
 have k:kE pen:=Xa.1 k;rw[kI k]at b;refine⟨LU,zk,[],rfl,wb2 ?_⟩;refine⟨Nat,λi=>⟨[(0,.sl plE l),(3,.loc 0 0),(6,.own 1),(7,i64 i)],[(0,.box 61 (jg pen)),(1,.arr 148 zk 1 (za7 (l.take i) pen))],2,50,0⟩,λi=>i<=l.length/\∀q∈l.take i,(kA q pen).2=0,λi=>l.length-i,0,?_,?_,?_⟩
 .exact⟨Xh _,λq s=>by cases s⟩
 .exact zf [0,1]
 rintro i ⟨D,f⟩
 obtain⟨C,u,v⟩:=zgk f λq s=>t q (XO s)
 rw[Xo]at u v;intro w;refine⟨λg:(i:Int)<l.length=>?_,λg:¬(i:Int)<l.length=>?_⟩
 .refine wd<|wb λx(n:l[i]?=some x)=>?_;have h:=t x (Xf n);refine wg (zt9 x pen h)<|wh<|⟨λz=>?_,λz=>?_⟩
  .have z:¬(kA x pen).2=0:=z;refine qJ ?_;rw[b,zdd n f z];exact Xe z
  have z:(kA x pen).2=0:=Xa.1 z;obtain⟨G,H,I⟩:=zde z h;refine⟨Nat,λj=>⟨[(0,.sl plE l),(3,.loc 0 0),(6,.own 1),(7,i64 i),(8,.sl zk (kA x pen).1),(10,i64 j)],[(0,.box 61 (jg pen)),(1,.arr 148 zk 1 (za7 (l.take i) pen++(kA x pen).1.take j))],2,50,0⟩,λj=>j<=(kA x pen).1.length,λj=>(kA x pen).1.length-j,0,?_,?_,?_⟩
  .exact Xh _
  .exact zt [0,1] ⟨rfl,aR (XC _).symm,tV⟩
  rintro j E
  intro y;refine⟨λB:(j:Int)<(kA x pen).1.length=>?_,λB:¬(j:Int)<(kA x pen).1.length=>?_⟩
  .refine wb λr(A:(kA x pen).1[j]?=some r)=>?_;refine⟨LU,zk,[r],rfl,wb0 ?_⟩;refine⟨[r],rfl,wb24 ?_⟩;exact wa<|⟨j+1,oM,zt [0,3] ⟨rfl,aR (by rw[Xm,A];exact XM ..),tV⟩,oN⟩
  exact wa<|⟨i+1,⟨oM,zhr n f z⟩,zt [0,1] ⟨rfl,aR (by rw[show(kA x pen).1.take j=(kA x pen).1 from Xi oM,znY n]),tV⟩,oN⟩
 have m:l.take i=l:=Xi oM;rw[m]at f;rw[zet f,qK rfl]at b;have o:za7 (l.take i) pen=za7 l pen:=by rw[m]
 refine wg (zvH (za7 (l.take i) pen) oM)<|⟨λd=>?_,λd=>?_⟩
 .have d:(4096:Int)<qe (za7 (l.take i) pen):=d;rw[m]at d;exact qJ (by rw[b,Xe oN])
 have d:¬(4096:Int)<qe (za7 (l.take i) pen):=d;rw[m]at d;rw[Xc oN]at b;rw[b];exact zO (z6 o) .refl
def zZ(q:Pl):LU:=if q.cl=true/\2<=q.pts.length then q.pts++[nth q.pts 0] else q.pts
def yM(p:Pl):zi p=zZ (zu p):=rfl
variable{q:Pl}
def zhs(h:q.cl=true)(k:2<=q.pts.length):zZ q=q.pts++[nth q.pts 0]:=Xe ⟨h,k⟩
def zpK(h:¬(q.cl=true/\2<=q.pts.length)):zZ q=q.pts:=Xc h
def zbH{q:Pl}{i:Nat}(h:i<q.pts.length):nth (zZ q) i=nth q.pts i:=by
 unfold zZ
 split
 .show(q.pts++[nth q.pts 0]).getD i zp=q.pts.getD i zp;rw[Xr,XL h];exact(Xr ..).symm
 rfl
def zsa(h:q.cl=true)(k:2<=q.pts.length):nth (zZ q) q.pts.length=nth q.pts 0:=by
 rw[zhs h k];show(q.pts++[nth q.pts 0]).getD q.pts.length zp=nth q.pts 0;rw[Xr,XF (Xj _),QQ];rfl
def zdf(h:q.cl=true)(k:2<=q.pts.length):(zZ q).length=q.pts.length+1:=by rw[zhs h k,Xq];rfl
def zb0{q:Pl}(h:¬(q.cl=true/\2<=q.pts.length)):(zZ q).length=q.pts.length:=by rw[zpK h]
def jK(q:Pl):q.pts.length<=(zZ q).length/\(zZ q).length<=q.pts.length+1:=by
 by_cases h:q.cl=true/\2<=q.pts.length
 .rw[zdf h.1 h.2];omega
 rw[zb0 h];omega
def zlP(q:Pl):List (Pt×Pt):=(List.range ((zZ q).length-1)).map λi=>(nth (zZ q) i,nth (zZ q) (i+1))
def segE(s:Pt×Pt):LR:=[wk s.1,wk s.2]
def zpL(h:i<(zZ q).length-1):(zlP q)[i]?=some (nth (zZ q) i,nth (zZ q) (i+1)):=by
 unfold zlP;rw[XD,KQ h];rfl
def zht(q:Pl):(zlP q).length=(zZ q).length-1:=by unfold zlP;simp
def zua(q:Pl):CX 313 [wv q] (.dfn 372 [.dptr (plE q)]):=by
 exact zah 2 tok mix func313 rfl rfl rfl<|.refl
def zDz(q:Pl)(n:q.pts.length<=4096):zfJ prog 372 [.dptr (plE q)] segE (zlP q):=by
 refine zjY (caps:=[.dptr (plE q)]) (enc:=segE) (xs:=zlP q) tok mix func372 rfl rfl rfl rfl (λl=>?_);intro j;refine⟨Nat,λk=>⟨[(0,.val (.func (.yield l) #[] #[])),(1,.dptr (plE q)),(3,i64 q.pts.length),(4,i64 ((k:Int)+1))],[],0,45,0⟩,λk=>k,λk=>k<=q.pts.length-1,λk=>q.pts.length-k,0,?_,?_,rfl,rfl,?_⟩
 .exact Xh _
 .exact zC []
 rintro k m
 have ll:=jK q;refine⟨λg:(k:Int)+1<q.pts.length=>?_,λg:¬(k:Int)+1<q.pts.length=>?_⟩
 .refine YDr.split 12 (Ob.mk (by decide +kernel) ?_);refine wa<|wb λx b=>?_
  have b:=qu (show q.pts[k]?=some x by
   have b:q.pts[((k:Int)+1-1).toNat]?=some x:=b
   rwa [show((k:Int)+1-1).toNat=k by omega]at b)
  refine wb λy d=>?_;have d:=qu (show q.pts[k+1]?=some y from d);refine⟨rfl,(x,y),(by show(zlP q)[k]?=some (x,y);rw[zpL oM,zbH oM,zbH oM,b,d]),rfl,.C (.C .nil),(λ_ _ h=>by cases h),?_⟩;refine Br.mk ?_ ?_
  .refine wa ?_;refine⟨k+1,oM,jo [] ⟨rfl,rfl,rfl,iR oM,tV⟩ trivial,rfl,rfl,oN⟩
  exact .inl rfl
 have ek:k=q.pts.length-1:=oM;have no:¬(q.cl=true/\2<=q.pts.length)->k=(zlP q).length:=λh=>by rw[zht,zb0 h];exact ek
 refine⟨λc=>?_,λc=>.inr (no λh=>c h.1)⟩;have c:q.cl=true:=c;refine⟨λf=>?_,λf=>.inr (no λh=>by have f:¬(1:Int)<q.pts.length:=f;omega)⟩;have f:(1:Int)<q.pts.length:=f;have le:=zdf c (show 2<=q.pts.length by omega);refine YDr.split 11 (Ob.mk (by decide +kernel) ?_);refine wa<|wb λx b=>?_
 have b:=qu (show q.pts[q.pts.length-1]?=some x by
  have b:q.pts[((q.pts.length:Int)-1).toNat]?=some x:=b
  rwa [show((q.pts.length:Int)-1).toNat=q.pts.length-1 by omega]at b)
 refine wb λy d=>?_;have d:=qu (show q.pts[0]?=some y from d);refine⟨rfl,(x,y),?_,rfl,.C (.C .nil),(λ_ _ h=>by cases h),?_⟩
 .show(zlP q)[k]?=some (x,y);rw[zpL oM,ek,zbH oM,show q.pts.length-1+1=q.pts.length by omega,zsa c oM,b,d]
 refine Br.mk ?_ ?_
 .refine .inr ?_;show k+1=(zlP q).length;rw[zht];omega
 exact .inl rfl
structure Me where
 ln:LU
 ts:LV
 lg:Int
def meE(m:Me):LR:=[.sl ptE m.ln,.sl zM m.ts,i64 m.lg]
def tsL(c:LU)(n:Nat):LV:=(List.range n).map (atS c)
def zvK(p:Pl):Me:=if ∀q∈p.pts,zm q then⟨(zu p).pts,tsL (zi p) ((zi p).length-1),zL p⟩ else⟨[],[],0⟩
def zA3(c:LU)(n:Nat):tsL c (n+1)=tsL c n++[atS c n]:=by
 unfold tsL;rw[KC,XA];rfl
def zj4(c:LU)(n:Nat):(tsL c n).length=n:=by unfold tsL;simp
variable{c:LU}{x:Int}
def ziJ{n:Nat}(h:(tsL c n)[i]?=some x):x=atS c i:=by
 have hi:i<n:=by have:=(Xd.1 h).1;rwa [zj4]at this
 unfold tsL at h;rw[XD,KQ hi]at h;exact(Xl h).symm
def yz(a b:Pt):0<=ji a b/\ji a b<4294967296:=zio _
def zaj(c:LU)(n:Nat):0<=atS c n/\atS c n<=4294967296*(n:Int):=by
 induction n with
 |zero=>exact⟨K9 0,by show(0:Int)<=_;decide⟩
 |succ n b=>
  have:=yz (nth c n) (nth c (n+1));unfold atS;omega
def znZ(p:Pl)(w:p.pts.length<=4096):CX 250 [wv p] (.tup [.agg (meE (zvK p)),pr (∀q∈p.pts,zm q)]):=by
 refine vk 2 tok mix func250 rfl rfl rfl λv=>?_;refine⟨Nat,λi=>⟨[(1,.loc 0 0),(2,.loc 1 0),(11,.sl ptE p.pts),(12,i64 p.pts.length),(13,i64 i)],[(0,.box 193 [.sl ptE p.pts,pr (p.cl=true)]),(1,.box 271 [nS,nS,i64 0])],2,47,0⟩,λi=>i<=p.pts.length/\∀q∈p.pts.take i,zm q,λi=>p.pts.length-i,0,?_,?_,?_⟩
 .exact⟨Xh _,λq b=>by cases b⟩
 .exact zf [0,1]
 rintro i ⟨B,f⟩
 refine⟨λg:(i:Int)<p.pts.length=>?_,λg:¬(i:Int)<p.pts.length=>?_⟩
 .refine wb λx(s:p.pts[i]?=some x)=>?_;refine wg (qa x)<|⟨λk=>?_,λk=>?_⟩
  .have k:¬∀q∈p.pts,zm q:=λh=>k (h x (Xf s))
   have e:zvK p=⟨[],[],0⟩:=Xc k;rw[e];exact zO (jp (.cons zD (.cons zD (.C .nil)))) (zd k)
  have k:=Xa.1 k;refine wa<|⟨i+1,⟨oM,λq b=>?_⟩,zf [0,1],oN⟩;rw[Xm,s]at b
  rcases Xt.1 b with b|b
  .exact f q b
  simp at b;rw[b];exact k
 rw[Xi oM]at f;have dl:=jx p;have ll:=jK (zu p);refine wg (zho p w)<|wg (zua (zu p)) ?_
 refine⟨Pt×Pt,segE,zlP (zu p),2,[(2,.loc 0 0),(7,.loc 1 0)],λj=>[(0,.box 271 [nS,nS,i64 0]),(1,.box 271 [.sl ptE (zu p).pts,.own 2,i64 (atS (zi p) j)]),(2,.arr 3 zM 1 (tsL (zi p) j))],λ_=>3,zDz (zu p) oM,λ_=>rfl,⟨rfl,rfl,rfl,rfl⟩,
  zC [(0,some 1),(1,some 3),(2,none)],⟨Xh _,rfl⟩,λj=>?_,?_,?_⟩
 .intro k m r;simp only[XH,XV,or_false,KJ]at r
  obtain⟨_,rfl⟩|⟨_,rfl⟩|⟨_,rfl⟩:=r
  .rfl
  .rfl
  trivial
 .intro j y d _;have u:j<(zi p).length-1:=by have:=(Xd.1 d).1;rwa [zht]at this
  have d:y=(nth (zi p) j,nth (zi p) (j+1)):=by rw[zpL u]at d;exact(Xl d).symm
  have t:=zaj (zi p) j;have o:=yz y.1 y.2;have A:=zj4 (zi p) j;have z:(zi p).length<=4097:=by rw[yM];omega
  refine⟨Int,zM,[atS (zi p) j],rfl,wb0 ?_⟩;refine⟨[atS (zi p) j],rfl,Ob.mk ⟨(by show _*(8:Int)<=_;simp only[Xn,Xs];omega),(by simp only[Xn,Xs];omega),dC,λ_ _=>rfl⟩ ?_⟩;refine wd<|wg (zz0 y.2 y.1)<|wg (zz3 (zac y.2 y.1)) ?_;unfold ji at o;refine wa<|wh<|zt [0,1,6] ⟨rfl,Xg (λq=>some (Mem.box 271 [.sl ptE (zu p).pts,.own 6,i64 q])) ?_,aR (zA3 _ _).symm,tV⟩;rw[d];rfl
 intro _;have e:zvK p=⟨(zu p).pts,tsL (zi p) ((zi p).length-1),zL p⟩:=Xe f;rw[e];have n:=zht (zu p);rw[←yM]at n;refine zO (jp (.C (.cons (z6 ?_) (.cons (ze ?_) .nil)))) (zH f)
 .rw[n]
 rw[n];rfl
def zsb(pen:Pen)(t:Nat):phD pen t=((t:Int)+256*pen.ph)%qF pen.d:=by unfold phD;exact(Int.add_emod ..).symm
def zeu{d:LV}(h:∀n∈d,0<=n)(hi:i<=d.length):0<=qC d i/\qC d i<=qF d:=by
 have b:=ziw h (Xh i);have f:=ziw h hi;rw[uu]at b;rw[yL]at f;exact⟨b,f⟩
variable{a:Nat}{e:Int}{lft:Int}
def ph_at{t:Nat}(f:∀n∈pen.d,0<=n)(b:pen.d[i]?=some e)(o:lft<=256*e)(h:qF pen.d ∣ qC pen.d (i+1)-lft-((a:Int)+256*pen.ph))(k:a<=t)(m:(t:Int)-a<lft):phD pen t=qC pen.d (i+1)-lft+((t:Int)-a):=by
 have hi:i<pen.d.length:=(Xd.1 b).1;have r:=zeu f (show i<=pen.d.length by omega);have s:=zeu f (show i+1<=pen.d.length by omega);have u:=yp b;obtain⟨q,j⟩:=h;rw[zsb];have g:(t:Int)+256*pen.ph=(qC pen.d (i+1)-lft+((t:Int)-a))+qF pen.d*(-q):=by rw[QN];omega
 rw[g,Int.add_mul_emod_self_left];exact Int.emod_eq_of_lt oM oM
def zE9{t:Nat}(f:∀n∈pen.d,0<=n)(b:pen.d[i]?=some e)(k:lft<=256*e)(j:qF pen.d ∣ qC pen.d (i+1)-lft-((a:Int)+256*pen.ph))(g:a<=t)(h:(t:Int)-a<lft):onD pen t↔i%2=0:=by
 have m:=yp b;unfold onD;rw[ph_at f b k j g h,zfa f b oM oM];show(0+i)%2=0↔_;rw[X8]
def zDA{b:Nat}{f:Int}(hi:i<pen.d.length)(g:pen.d[(i+1)%pen.d.length]?=some f)(j:qF pen.d ∣ qC pen.d (i+1)-lft-((a:Int)+256*pen.ph))(m:(b:Int)=a+lft):
  qF pen.d ∣ qC pen.d ((i+1)%pen.d.length+1)-256*f-((b:Int)+256*pen.ph):=by
 rw[yp g]
 by_cases h:i+1<pen.d.length
 .rw[Xy h]
  rwa [show qC pen.d (i+1)+256*f-256*f-((b:Int)+256*pen.ph)=qC pen.d (i+1)-lft-((a:Int)+256*pen.ph) by omega]
 have k:i+1=pen.d.length:=by omega
 rw[k,JX,uu];rw[k,yL]at j;rw[show(0:Int)+256*f-256*f-((b:Int)+256*pen.ph)=(qF pen.d-lft-((a:Int)+256*pen.ph))-qF pen.d by omega];exact Int.dvd_sub j (Int.dvd_refl _)
def u7(r:Nat)(d:LV)(n:Nat):Int:=((List.range n).map λi=>if i%2=r then d.getD i 0 else 0).sum
def zn0(r:Nat)(d:LV)(n:Nat):u7 r d (n+1)=u7 r d n+if n%2=r then d.getD n 0 else 0:=by
 unfold u7;rw[KC,XA,QT];simp
def zfg{r:Nat}{d:LV}{n:Nat}(b:d[n]?=some x)(h:n%2=r):u7 r d (n+1)=u7 r d n+x:=by
 rw[zn0,Xe h,Xr,b];rfl
def ziK{r:Nat}{d:LV}{n:Nat}(h:¬n%2=r):u7 r d (n+1)=u7 r d n:=by
 rw[zn0,Xc h,Ym]
def zb1(d:LV):∀n,n<=d.length->256*(u7 0 d n+u7 1 d n)=qC d n
 |0,_=>rfl
 |n+1,h=>by
  have f:=zb1 d n oM;have b:d[n]?=some d[n]:=Xb oM;rw[yp b]
  rcases J5 n with k|k
  .rw[zfg b k,ziK (r:=1) oM];omega
  rw[zfg b k,ziK (r:=0) oM];omega
def zev(d:LV):drawn d=256*u7 0 d d.length:=rfl
def yj{r:Nat}{d:LV}(h:∀n∈d,0<=n):∀n,n<=d.length->0<=u7 r d n
 |0,_=>K9 0
 |n+1,g=>by
  have f:=yj (r:=r) h n oM;have b:d[n]?=some d[n]:=Xb oM;have:=h d[n] (X2 _)
  by_cases k:n%2=r
  .rw[zfg b k];omega
  rw[ziK k];exact f
def yk{d:LV}(h:uB d):(∀n∈d,0<=n)/\(∀n∈d,n<=1048576)/\d.length<=16/\qF d<=4294967296:=by
 have f:∀n∈d,n<=1048576:=λn b=>(h.1 n b).2
 have g:d.length<=16:=by have:=h.2.2.2;omega
 have:=zAn f;exact⟨λn b=>(h.1 n b).1,f,g,by unfold qF;omega⟩
def frI:LK->Int
 |none=> -1
 |some f=>f
def zpM{o:LK}(h:frI o<0):o=none:=by
 cases o with
 |none=>rfl
 |some f=>have h:(f:Int)<0:=h;omega
def zpN{o:LK}(h:¬frI o<0):∃f,o=some f/\frI o=f:=by
 cases o with
 |none=>exact absurd (show(-1:Int)<0 by decide) h
 |some f=>exact⟨f,rfl,rfl⟩
def zxI(pen:Pen)(o:kE pen)(hper:0<qF pen.d):CX 317 [ws pen,i64 0] (.tup [i64 ((yy pen.d (phD pen 0) 0).1:Int),i64 (yy pen.d (phD pen 0) 0).2]):=by
 refine zc func317 ?_;obtain⟨f,n,z,A⟩:=yk o.2.2.2.2.1;have w:=o.2.2.2.2.2;intro u;refine⟨Nat,λi=>⟨[(1,i64 0),(2,.loc 0 0),(6,i64 (qC pen.d i)),(13,.sl zM pen.d),(14,i64 pen.d.length),(15,i64 i)],[(0,.box 61 (jg pen))],1,57,0⟩,λi=>i<=pen.d.length,λi=>pen.d.length-i,0,?_,?_,?_⟩
 .exact Xh _
 .exact zf [0]
 rintro i hi
 have j:=zeu f hi;refine⟨λg:(i:Int)<pen.d.length=>?_,λg:¬(i:Int)<pen.d.length=>?_⟩
 .refine wb λx(b:pen.d[i]?=some x)=>?_;have k:=f x (Xf b);have m:=n x (Xf b);(iterate 3 refine wa ?_);exact⟨i+1,oM,zP [0] ⟨rfl,rfl,iR (yp b).symm,rfl,rfl,rfl,tV⟩ ⟨rfl,tV⟩,oN⟩
 have ei:i=pen.d.length:=oM;have eP:qC pen.d i=qF pen.d:=by rw[ei,yL]
 have B:=Kh (256*pen.ph) (show qC pen.d i≠0 by omega);have C:=Kd (256*pen.ph) (show 0<qC pen.d i by omega);have D:(0:Int)%qC pen.d i=0:=Int.zero_emod _;have s:=Kh (0%qC pen.d i+256*pen.ph%qC pen.d i) (show qC pen.d i≠0 by omega);have t:=Kd (0%qC pen.d i+256*pen.ph%qC pen.d i) (show 0<qC pen.d i by omega);refine wc<|Dv.pos ⟨oM,oM⟩<|wa<|Dv.pos ⟨oM,oM⟩<|wa<|Dv.pos ⟨oM,oM⟩ ?_
 have ek:phD pen 0=(0%qC pen.d i+256*pen.ph%qC pen.d i)%qC pen.d i:=by rw[eP];rfl
 rw[←ek]at s t;intro v;refine⟨Nat,λi=>⟨[(9,i64 (phD pen 0-qC pen.d i)),(36,.sl zM pen.d),(37,i64 pen.d.length),(38,i64 i)],[],0,57,0⟩,λi=>i<=pen.d.length/\qC pen.d i<=phD pen 0,λi=>pen.d.length-i,0,?_,?_,?_⟩
 .exact⟨Xh _,by rw[uu];exact s⟩
 .exact jo [] ⟨iR (by rw[uu,Int.sub_zero];exact ek.symm),rfl,rfl,rfl,tV⟩ trivial
 rw[eP]at t
 rintro i ⟨hi,h⟩
 have j:=zeu f hi;refine⟨λg:(i:Int)<pen.d.length=>?_,λg:¬(i:Int)<pen.d.length=>?_⟩
 .refine wb λx(b:pen.d[i]?=some x)=>?_;have k:=f x (Xf b);have m:=n x (Xf b);have y:=yp b;refine wa<|Br.mk (λc=>?_) (λc=>?_)
  .have c:phD pen 0-qC pen.d i<256*x:=c;have r:=zfa (i0:=0) f b h oM;(iterate 2 refine wa ?_);refine zO (ze ?_) (ze ?_)
   .rw[r];show(i:Int)=((0+i:Nat):Int);omega
   rw[r];dsimp only;omega
  have c:¬phD pen 0-qC pen.d i<256*x:=c;(iterate 3 refine wa ?_);exact⟨i+1,⟨oM,oM⟩,jo [] ⟨iR (by rw[y];omega),rfl,rfl,rfl,tV⟩ trivial,oN⟩
 have:qC pen.d i=qF pen.d:=by rw[show i=pen.d.length by omega,yL]
 omega
def runE(q:Nat×Nat):LR:=[i64 (q.1:Int),i64 (q.2:Int)]
def zDB{pen:Pen}{long:Int}(b:kE pen)(f:¬long<1)(j:¬u7 1 pen.d pen.d.length=0)(k:¬u7 0 pen.d pen.d.length=0):kS pen long=kM (onD pen) long.toNat:=by
 have g:=zb1 pen.d pen.d.length (Xj _);rw[yL]at g;have m:=zev pen.d;unfold kS;rw[Xc (λh=>by rcases h with h|h|h;exact h b;exact f h;omega),Xc oM]
def zub{pen:Pen}{long:Int}(b:kE pen)(f:¬long<1)(j:u7 1 pen.d pen.d.length=0):kS pen long=[(0,long.toNat)]:=by
 have g:=zb1 pen.d pen.d.length (Xj _);rw[yL]at g;have k:=zev pen.d;unfold kS;rw[Xc (λh=>by rcases h with h|h|h;exact h b;exact f h;omega),Xe oM]
def zxJ{pen:Pen}{long:Int}(g:kE pen)(h:¬long<1)(j:¬u7 1 pen.d pen.d.length=0)(k:u7 0 pen.d pen.d.length=0)(b:∀n∈pen.d,0<=n):kS pen long=[]:=by
 have f:=zb1 pen.d pen.d.length (Xj _);rw[yL]at f;have m:=zev pen.d;have o:=yj (r:=1) b pen.d.length (Xj _);unfold kS;rw[Xe (.inr (.inr ⟨oM,oM⟩))]
variable{long:Int}
def zsc(h:¬kE pen∨long<1):kS pen long=[]:=by
 unfold kS;rw[Xe (by rcases h with h|h;exact .inl h;exact .inr (.inl h))]
structure Wk where
 a:Nat
 i:Nat
 l:Int
def okW(pen:Pen)(long:Int)(s:Wk):Prop:=
 (s.a:Int)<=long/\s.i<pen.d.length/\0<=s.l/\(∃e,pen.d[s.i]?=some e/\s.l<=256*e)/\((s.a:Int)<long->qF pen.d ∣ qC pen.d (s.i+1)-s.l-((s.a:Int)+256*pen.ph))
def jD(pen:Pen)(long:Int)(s:Wk):Wk:=⟨s.a+(min s.l (long-s.a)).toNat,(s.i+1)%pen.d.length,256*pen.d.getD ((s.i+1)%pen.d.length) 0⟩
def muW(pen:Pen)(long:Int)(j:Nat)(s:Wk):Nat:=(long.toNat-s.a)*(pen.d.length+2)+if s.l=0 then 1+(j+pen.d.length-1-s.i)%pen.d.length else 0
def zDC{s:Wk}(o:uB pen.d)(h:okW pen long s)(b:(s.a:Int)<long):okW pen long (jD pen long s):=by
 obtain⟨w,m,y,⟨e,z,A⟩,n⟩:=h;obtain⟨k,t,u,v⟩:=yk o;have j:(s.i+1)%pen.d.length<pen.d.length:=Kn _ oM
 have f:pen.d[(s.i+1)%pen.d.length]?=some (pen.d.getD ((s.i+1)%pen.d.length) 0):=by
  rw[Xr,Xb j];rfl
 have r:=k _ (Xf f);refine⟨by unfold jD;dsimp only;omega,j,by unfold jD;dsimp only;omega,⟨_,f,K9 _⟩,λg=>?_⟩;unfold jD at g ⊢;dsimp only at g ⊢;exact zDA m f (n b) oM
def zDD{s:Wk}{j:Nat}(H:uB pen.d)(h:okW pen long s)(v:(s.a:Int)<long)(r:∃x,pen.d[j]?=some x/\0<x):muW pen long j (jD pen long s)<muW pen long j s:=by
 obtain⟨B,C,D,⟨e,E,F⟩,G⟩:=h;obtain⟨x,g,w⟩:=r;have t:j<pen.d.length:=(Xd.1 g).1;unfold muW jD;dsimp only
 by_cases z:s.l=0
 .rw[Xe z];have k:(min s.l (long-s.a)).toNat=0:=oM;rw[k,XW];refine Nat.add_lt_add_left ?_ _
  split
  .rename_i f
   -- the next is none of the entries that are more than zero
   have b:(s.i+1)%pen.d.length≠j:=λo=>by
    rw[o,Xr,g]at f;have f:256*x=0:=f;omega
   have key:(j+pen.d.length-1-(s.i+1)%pen.d.length)%pen.d.length+1=(j+pen.d.length-1-s.i)%pen.d.length:=by
    by_cases c:s.i+1<pen.d.length
    .rw[Xy c]at b ⊢
     by_cases y:s.i<j
     .rw[show j+pen.d.length-1-(s.i+1)=(j-1-(s.i+1))+pen.d.length by omega,show j+pen.d.length-1-s.i=(j-1-s.i)+pen.d.length by omega,Yc,Yc,Xy oM,Xy oM];omega
     rw[Xy oM,Xy oM];omega
    have u:s.i+1=pen.d.length:=by omega
    rw[u,JX]at b ⊢;rw[show j+pen.d.length-1-0=(j-1)+pen.d.length by omega,Yc,Xy (show j-1<pen.d.length by omega),Xy (show j+pen.d.length-1-s.i<pen.d.length by omega)];omega
   omega
  omega
 rw[Xc z];have I:(j+pen.d.length-1-(s.i+1)%pen.d.length)%pen.d.length<pen.d.length:=Kn _ oM;have m:long.toNat-s.a=(long.toNat-(s.a+(min s.l (long-s.a)).toNat))+(min s.l (long-s.a)).toNat:=oM;have n:1<=(min s.l (long-s.a)).toNat:=oM;have A:1*(pen.d.length+2)<=(min s.l (long-s.a)).toNat*(pen.d.length+2):=Xv _ n;rw[m,Ka]
 split <;> omega
def zA4{s:Wk}(u:uB pen.d)(h:okW pen long s)(j:(s.a:Int)<long)(C:¬min s.l (long-s.a)=0):
  (s.i%2=0->z9 (onD pen) (jD pen long s).a=((z9 (onD pen) s.a).1,some ((z9 (onD pen) s.a).2.getD s.a)))/\(¬s.i%2=0->z9 (onD pen) (jD pen long s).a=(kM (onD pen) s.a,none)):=by
 obtain⟨z,A,B,⟨e,n,o⟩,r⟩:=h;obtain⟨m,v,w,y⟩:=yk u
 have on:∀t,s.a<=t->t<(jD pen long s).a->(onD pen t↔s.i%2=0):=λt ht g=>by
  unfold jD at g;dsimp only at g;exact zE9 m n o (r j) ht oM
 have f:s.a<(jD pen long s).a:=by unfold jD;dsimp only;omega
 exact⟨λk=>zAo f λt a b=>(on t a b).2 k,λk=>zvy f λt a b c=>k ((on t a b).1 c)⟩
def zDE(pen:Pen)(long:Int)(hlong:long<=70368744177664):zfJ prog 316 [.dptr (jg pen),.dptr [i64 long]] runE (kS pen long):=by
 refine zjY (caps:=[.dptr (jg pen),.dptr [i64 long]]) (enc:=runE) (xs:=kS pen long) tok mix func316 rfl rfl rfl rfl (λl=>?_);have bad:¬kE pen∨long<1->0=(kS pen long).length:=λh=>by rw[zsc h];rfl
 refine wg (ze5 pen)<|⟨λk=>.inr (bad (.inl k)),λk=>?_⟩;have G:kE pen:=Xa.1 k;refine⟨λH=>.inr (bad (.inr (by have H:long<=0:=H;omega))),λH=>?_⟩;have H:¬long<=0:=H;have F:=G.2.2.2.2.1;obtain⟨v,N,d3,d4⟩:=yk F;intro hl1
 refine⟨Nat,λi=>⟨[(0,.val (.func (.yield l) #[] #[])),(1,.dptr (jg pen)),(2,.dptr [i64 long]),(4,.loc 0 0),(20,.sl zM pen.d),(21,i64 pen.d.length),(22,i64 i)],[(0,.box 254 [i64 (u7 0 pen.d i),i64 (u7 1 pen.d i)])],1,103,0⟩,λ_=>0,λi=>i<=pen.d.length,λi=>pen.d.length-i,0,?_,?_,rfl,rfl,?_⟩
 .exact Xh _
 .exact zf [0]
 rintro i hi
 have S:=zb1 pen.d i hi;have hpi:=zeu v hi;have p0:=yj (r:=0) v i hi;have p1:=yj (r:=1) v i hi;refine⟨λg:(i:Int)<pen.d.length=>?_,λg:¬(i:Int)<pen.d.length=>?_⟩
 .refine wb λx(o:pen.d[i]?=some x)=>?_;have u:=v x (Xf o);have b:=N x (Xf o);refine Dv.pos ⟨oM,dC⟩ ?_
  rcases J5 i with h|h
  .rw[show(i:Int)%2=0 by omega];(iterate 2 refine wa ?_);exact⟨i+1,oM,zt [0] ⟨(show some (Mem.box 254 [i64 (u7 0 pen.d i+x),i64 (u7 1 pen.d i)])=some (Mem.box 254 [i64 (u7 0 pen.d (i+1)),i64 (u7 1 pen.d (i+1))]) by rw[zfg o h,ziK (r:=1) oM]),tV⟩,rfl,rfl,oN⟩
  rw[show(i:Int)%2=1 by omega];(iterate 2 refine wa ?_);exact⟨i+1,oM,zt [0] ⟨(show some (Mem.box 254 [i64 (u7 0 pen.d i),i64 (u7 1 pen.d i+x)])=some (Mem.box 254 [i64 (u7 0 pen.d (i+1)),i64 (u7 1 pen.d (i+1))]) by rw[zfg o h,ziK (r:=0) oM]),tV⟩,rfl,rfl,oN⟩
 have ei:i=pen.d.length:=oM;refine⟨λq1:u7 1 pen.d i=0=>?_,λq1:¬u7 1 pen.d i=0=>?_⟩
 .rw[ei]at q1;have e:=zub (long:=long) G oM q1;refine⟨rfl,(0,long.toNat),by rw[e];rfl,rfl,.C (.cons (ze (show long=((long.toNat:Nat):Int) by omega)) .nil),(λk m h=>?_),?_⟩
  .cases h with
   |head=>rfl
   |tail _ h=>cases h
  exact⟨.inr (by rw[e];rfl),.inl rfl⟩
 rw[ei]at q1;refine⟨λK:u7 0 pen.d i=0=>?_,λK:¬u7 0 pen.d i=0=>?_⟩
 .rw[ei]at K;exact .inr (by rw[zxJ (long:=long) G oM q1 K v];rfl)
 rw[ei]at K S p0 p1;rw[yL]at S;have eR:=zDB (long:=long) G oM q1 K;have hper:0<qF pen.d:=oM
 obtain⟨j,y,O,hy⟩:∃(j:Nat) (y:Int),pen.d[j]?=some y/\0<y:=by
  have P:=F.2.1.resolve_left λh=>q1 (by rw[h];rfl)
  obtain⟨n,P,Y⟩:=P;obtain⟨j,O,he⟩:=Ks P;exact⟨j,n,by rw[Xb O,he],Y⟩
 refine wg (zxI pen G hper) ?_
 -- where it begins
 have T:=Kh ((0:Nat)+256*pen.ph) (show qF pen.d≠0 by omega);have U:=Kd ((0:Nat)+256*pen.ph) hper;rw[←zsb pen 0]at T U;obtain⟨i0,E,M,W,X⟩:=zps v T U;have gp:=zfa (i0:=0) v M W X;rw[X8]at gp;have gs:=yp M
 have Q:okW pen long ⟨0,i0,qC pen.d i0+256*E-phD pen (0:Nat)⟩:=by
  refine⟨oN,(Xd.1 M).1,oN,⟨E,M,oN⟩,λ_=>?_⟩;dsimp only;rw[show qC pen.d (i0+1)-(qC pen.d i0+256*E-phD pen (0:Nat))-(((0:Nat):Int)+256*pen.ph)=phD pen (0:Nat)-(((0:Nat):Int)+256*pen.ph) by omega,zsb];have:=Yx (((0:Nat):Int)+256*pen.ph) (qF pen.d);exact⟨-((((0:Nat):Int)+256*pen.ph)/qF pen.d),by rw[QN];omega⟩
 have gp:yy pen.d (phD pen 0) 0=(i0,qC pen.d i0+256*E-phD pen (0:Nat)):=gp;refine⟨Wk,λs=>⟨[(0,.val (.func (.yield l) #[] #[])),(1,.dptr (jg pen)),(2,.dptr [i64 long]),(7,i64 (frI (z9 (onD pen) s.a).2)),(8,i64 s.i),(9,i64 s.l),(10,i64 s.a)],[],0,103,0⟩,λs=>(z9 (onD pen) s.a).1.length,okW pen long,muW pen long j,⟨0,i0,qC pen.d i0+256*E-phD pen (0:Nat)⟩,Q,?_,rfl,rfl,?_⟩
 .exact jo [] ⟨rfl,rfl,rfl,rfl,iR (by rw[gp]),iR (by rw[gp]),rfl,tV⟩ trivial
 rintro s B
 obtain⟨h1,h2,h3,⟨e,Z,h5⟩,h6⟩:=id B;have hpl:=zeu v (show s.i<=pen.d.length by omega);have he2:=N e (Xf Z);refine⟨λc=>?_,λc=>?_⟩;rotate_left
 .have c:¬(s.a:Int)<long:=c;have L:s.a=long.toNat:=oM;have eF:kS pen long=(z9 (onD pen) s.a).1++((z9 (onD pen) s.a).2.map λf=>(f,s.a)).toList:=by rw[eR,←L];rfl
  refine⟨λf:0<=frI (z9 (onD pen) s.a).2=>?_,λf:¬0<=frI (z9 (onD pen) s.a).2=>?_⟩
  .obtain⟨q,D,A⟩:=zpN (show¬frI (z9 (onD pen) s.a).2<0 by omega);rw[D]at eF;refine⟨rfl,(q,s.a),by rw[eF];exact Qz ..,rfl,.cons (ze A) (.cons (ze (show long=((s.a:Nat):Int) by omega)) .nil),(λ_ _ h=>by cases h),?_⟩;exact⟨.inr (by rw[eF,Xq];rfl),.inl rfl⟩
  rw[zpM (show frI (z9 (onD pen) s.a).2<0 by omega)]at eF;exact .inr (by rw[eF];exact(Xg List.length (XC _)).symm)
 have c:(s.a:Int)<long:=c;have nok:=zDC F B c;have nmu:=zDD F B c ⟨y,O,hy⟩;have nrun:=zA4 F B c;have na:((jD pen long s).a:Int)=s.a+min s.l (long-s.a):=by unfold jD;dsimp only;omega
 have ni:(((jD pen long s).i:Nat):Int)=((s.i:Int)+1)%pen.d.length:=by unfold jD;dsimp only;exact Q1 ..
 have I:=Kh ((s.i:Int)+1) (show(pen.d.length:Int)≠0 by omega);have J:=Kd ((s.i:Int)+1) (show 0<(pen.d.length:Int) by omega)
 have V:(((s.i:Int)+1)%pen.d.length).toNat=(s.i+1)%pen.d.length:=by
  rw[show(s.i:Int)+1=((s.i+1:Nat):Int) by omega];omega
 have tailX:∀x,pen.d[(((s.i:Int)+1)%pen.d.length).toNat]?=some x->(0<=x/\x<=1048576)/\(jD pen long s).l=256*x:=λx o=>by
  refine⟨⟨v x (Xf o),N x (Xf o)⟩,?_⟩;rw[V]at o;unfold jD;dsimp only;rw[Xr,o];rfl
 have hmin:zb9 s.l [long-(s.a:Int)]=min s.l (long-s.a):=rfl;refine wa<|Br.mk (λz=>?_) (λz=>?_)
 .have z:min s.l (long-s.a)=0:=z;have L:(jD pen long s).a=s.a:=oM;(iterate 2 refine wa ?_);intro w;refine Dv.pos ⟨oM,oM⟩<|Ob.mk ⟨I,J⟩ λx o=>?_;obtain⟨u,b⟩:=tailX x o;exact wa<|⟨jD pen long s,nok,jo [] ⟨rfl,rfl,rfl,Xg (λq=>some (i64 (frI (z9 (onD pen) q).2))) L.symm,iR ni.symm,iR b.symm,iR na.symm,tV⟩ trivial,Xg (λq=>(z9 (onD pen) q).1.length) L.symm,rfl,nmu⟩
 have z:¬min s.l (long-s.a)=0:=z;obtain⟨rOn,rOff⟩:=nrun z;have rF:=zAp (on:=onD pen) (show(jD pen long s).a<=long.toNat by have:=nok.1;omega);rw[←eR]at rF;refine Dv.pos ⟨oM,dC⟩<|⟨λev=>?_,λev=>?_⟩
 .have ev:s.i%2=0:=by have ev:(s.i:Int)%2=0:=ev;omega
  have rOn:=rOn ev;have cnt:(z9 (onD pen) s.a).1.length=(z9 (onD pen) (jD pen long s).a).1.length:=by rw[rOn]
  refine⟨λf:frI (z9 (onD pen) s.a).2<0=>?_,λf:¬frI (z9 (onD pen) s.a).2<0=>?_⟩
  .have t:(s.a:Int)=frI (z9 (onD pen) (jD pen long s).a).2:=by rw[rOn,zpM f];rfl
   (iterate 2 refine wa ?_);intro w;refine Dv.pos ⟨oM,oM⟩<|Ob.mk ⟨I,J⟩ λx o=>?_;obtain⟨u,b⟩:=tailX x o;exact wa<|⟨jD pen long s,nok,jo [] ⟨rfl,rfl,rfl,iR t,iR ni.symm,iR b.symm,iR na.symm,tV⟩ trivial,cnt,rfl,nmu⟩
  obtain⟨q,D,A⟩:=zpN f;have t:frI (z9 (onD pen) s.a).2=frI (z9 (onD pen) (jD pen long s).a).2:=by rw[rOn,D];rfl
  refine Dv.pos ⟨oM,dC⟩<|⟨λod=>absurd (show(s.i:Int)%2=1 from od) oM,λ_=>?_⟩;(iterate 2 refine wa ?_);intro w;refine Dv.pos ⟨oM,oM⟩<|Ob.mk ⟨I,J⟩ λx o=>?_;obtain⟨u,b⟩:=tailX x o;exact wa<|⟨jD pen long s,nok,jo [] ⟨rfl,rfl,rfl,iR t,iR ni.symm,iR b.symm,iR na.symm,tV⟩ trivial,cnt,rfl,nmu⟩
 have ev:¬s.i%2=0:=by have ev:¬(s.i:Int)%2=0:=ev;omega
 have rOff:=rOff ev;refine Dv.pos ⟨oM,dC⟩<|⟨λ_=>?_,λod=>absurd (show(s.i:Int)%2=1 by omega) od⟩;refine⟨λf:0<=frI (z9 (onD pen) s.a).2=>?_,λf:¬0<=frI (z9 (onD pen) s.a).2=>?_⟩
 .obtain⟨q,D,A⟩:=zpN (show¬frI (z9 (onD pen) s.a).2<0 by omega);have eA:(z9 (onD pen) (jD pen long s).a).1=(z9 (onD pen) s.a).1++[(q,s.a)]:=by rw[rOff];unfold kM;rw[D];rfl
  obtain⟨r,R⟩:=rF;rw[eA]at R;refine⟨rfl,(q,s.a),?_,rfl,.cons (ze A) (.C .nil),(λ_ _ h=>by cases h),?_⟩
  .show(kS pen long)[(z9 (onD pen) s.a).1.length]?=some (q,s.a);rw[R,XM,XF (Xj _),QQ];rfl
  refine Br.mk ?_ (.inl rfl);have t:(-1:Int)=frI (z9 (onD pen) (jD pen long s).a).2:=by rw[rOff];rfl
  have cnt:(z9 (onD pen) s.a).1.length+1=(z9 (onD pen) (jD pen long s).a).1.length:=by rw[eA,Xq];rfl
  (iterate 2 refine wa ?_);intro w;refine Dv.pos ⟨oM,oM⟩<|Ob.mk ⟨I,J⟩ λx o=>?_;obtain⟨u,b⟩:=tailX x o;exact wa<|⟨jD pen long s,nok,jo [] ⟨rfl,rfl,rfl,iR t,iR ni.symm,iR b.symm,iR na.symm,tV⟩ trivial,cnt,rfl,nmu⟩
 have D:=zpM (show frI (z9 (onD pen) s.a).2<0 by omega);have t:frI (z9 (onD pen) s.a).2=frI (z9 (onD pen) (jD pen long s).a).2:=by rw[rOff,D]
 have cnt:(z9 (onD pen) s.a).1.length=(z9 (onD pen) (jD pen long s).a).1.length:=by rw[rOff];unfold kM;rw[D];exact(Xg List.length (XC _)).symm
 (iterate 2 refine wa ?_);intro w;refine Dv.pos ⟨oM,oM⟩<|Ob.mk ⟨I,J⟩ λx o=>?_;obtain⟨u,b⟩:=tailX x o;exact wa<|⟨jD pen long s,nok,jo [] ⟨rfl,rfl,rfl,iR t,iR ni.symm,iR b.symm,iR na.symm,tV⟩ trivial,cnt,rfl,nmu⟩
def p_on(pen:Pen)(long:Int):CX 252 [ws pen,i64 long] (.dfn 316 [.dptr (jg pen),.dptr [i64 long]]):=by
 exact zah 2 tok mix func252 rfl rfl rfl<|.refl
def zlQ(h:¬x<atS c i):zlx c x i=i:=by
 cases i with
 |zero=>rfl
 |succ i=>unfold zlx;rw[Xc h]
def zA5(h:x<atS c (i+1)):zlx c x (i+1)=zlx c x i:=by
 show(if x<atS c (i+1) then zlx c x i else i+1)=_;rw[Xe h]
def zA6(d:2<=(zZ q).length)(hi:i<=(zZ q).length-2):nth q.pts ((i+1)%q.pts.length)=nth (zZ q) (i+1):=by
 by_cases h:q.cl=true/\2<=q.pts.length
 .have b:=zdf h.1 h.2
  by_cases e:i+1=q.pts.length
  .rw[e,JX,zsa h.1 h.2]
  rw[Xy oM,zbH oM]
 have b:=zb0 h;rw[Xy oM,zbH oM]
def meQ(q:Pl):Me:=⟨q.pts,tsL (zZ q) ((zZ q).length-1),atS (zZ q) ((zZ q).length-1)⟩
def zDF(h:∀q∈p.pts,zm q):zvK p=meQ (zu p):=Xe h
def zvL(q:Pl)(x:Int)(I:q.pts.length<=4096)(A:2<=(zZ q).length)(J:0<=x/\x<=70368744177664):CX 318 [.agg (meE (meQ q)),i64 x] (wk (zdJ (zZ q) x)):=by
 refine zc func318 ?_;have ll:=jK q;have tl:(meQ q).ts.length=(zZ q).length-1:=zj4 ..;intro B;refine wa<|⟨Nat,λi=>⟨[(1,i64 x),(2,.loc 0 0),(4,.loc 1 0),(5,i64 i)],[(0,.box 271 (meE (meQ q))),(1,.box 28 [i64 0,i64 0])],2,68,0⟩,λi=>i<=(zZ q).length-2/\zlx (zZ q) x ((zZ q).length-2)=zlx (zZ q) x i,λi=>i,(zZ q).length-2,?_,?_,?_⟩
 .exact⟨Xj _,rfl⟩
 .exact zP [0,1] ⟨rfl,rfl,rfl,iR (by rw[tl];omega),tV⟩ ⟨rfl,rfl,tV⟩
 rintro i ⟨hi,hidx⟩
 have ar:=zaj (zZ q) i;have t:=zaj (zZ q) (i+1);have v:=zaj (zZ q) ((zZ q).length-1);refine⟨λg=>Ob.mk (by have g:(0:Int)<(i:Int):=g;omega) λy o=>Br.mk (λc=>?_) (λc=>?_),λg=>?_⟩
 .have g:(0:Int)<(i:Int):=g;have o:=ziJ (show(tsL (zZ q) ((zZ q).length-1))[i]?=some y from o);have c:x<y:=c;obtain⟨k,rfl⟩:∃k,i=k+1:=⟨i-1,oM⟩;exact wa<|⟨k,⟨oM,by rw[hidx,zA5 (by rw[←o];exact c)]⟩,zP [0,1] ⟨rfl,rfl,rfl,iR oM,tV⟩ ⟨rfl,rfl,tV⟩,X5 k⟩
 all_goals
  have r:zlx (zZ q) x ((zZ q).length-2)=i:=by
   first
   |exact hidx.trans (zlQ (by rw[←ziJ (show(tsL (zZ q) ((zZ q).length-1))[i]?=some y from o)];exact c))
   |exact hidx.trans (by rw[show i=0 by have g:¬(0:Int)<(i:Int):=g;omega];rfl)
  clear g;refine wa λC=>?_;refine⟨λd=>Ar.fit oM (Ob.mk ⟨oM,d⟩ λz E=>?_),λd=>?_⟩
  all_goals
   have H:1<=q.pts.length:=oM;have F:=Kh ((i:Int)+1) (show(q.pts.length:Int)≠0 by omega);have G:=Kd ((i:Int)+1) (show 0<(q.pts.length:Int) by omega)
   have w:(((i:Int)+1)%q.pts.length).toNat=(i+1)%q.pts.length:=by
    rw[show(i:Int)+1=((i+1:Nat):Int) by omega];omega
   refine wc<|Ob.mk (show 0<=(i:Int)/\(i:Int)<q.pts.length by omega) λa m=>?_;have m:=qu (show q.pts[i]?=some a from m);rw[←zbH (q:=q) (i:=i) oM]at m;refine wa λD=>Dv.pos ⟨oM,(show 0<(q.pts.length:Int) by omega)⟩<|Ob.mk ⟨F,G⟩ λb n=>?_;have n:=qu (show q.pts[(((i:Int)+1)%q.pts.length).toNat]?=some b from n);rw[w,zA6 A hi]at n;refine Ob.mk (show 0<=(i:Int)/\(i:Int)<((meQ q).ts.length:Int) by omega) λu s=>?_
   have s:=ziJ (show(tsL (zZ q) ((zZ q).length-1))[i]?=some u from s);refine wa<|Ob.mk (show 0<=(i:Int)/\(i:Int)<((meQ q).ts.length:Int) by omega) λj f=>?_;have f:=ziJ (show(tsL (zZ q) ((zZ q).length-1))[i]?=some j from f)
   have key:∀T,T=atS (zZ q) (i+1)->uK a b (x-u) (T-j)=zdJ (zZ q) x:=λT h=>by
    unfold zdJ;dsimp only;rw[r,h,s,f,m,n]
   first
   |have hT:=ziJ (show(tsL (zZ q) ((zZ q).length-1))[i+1]?=some z from E)
    exact wa<|wg (zz5 a b (x-u) (z-j))<|ue (Xg (λp=>SV.agg (ptE p)) (key _ hT))
   |have d:¬(i:Int)+1<((meQ q).ts.length:Int):=d
    have hT:atS (zZ q) ((zZ q).length-1)=atS (zZ q) (i+1):=by rw[show(zZ q).length-1=i+1 by omega]
    exact Ar.fit (show-9223372036854775808<=atS (zZ q) ((zZ q).length-1)-j/\atS (zZ q) ((zZ q).length-1)-j<=9223372036854775807 by omega)<|wg (zz5 a b (x-u) (atS (zZ q) ((zZ q).length-1)-j))<|ue (Xg (λp=>SV.agg (ptE p)) (key _ hT))
end Go.Gs
