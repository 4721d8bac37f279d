/- Dashes: the first text. -/
import Derived.Test.YtakicgnbhdpknaaGreatDoorPBE
import Derived.Test.YtakicgnbhdpknaaGreatDoorPBH
set_option maxRecDepth 100000
set_option maxHeartbeats 8000000
set_option linter.all false
namespace Go.Gs
open Proofs.Tryz
open Go.Proofs
inductive Pw
 |d (q:Pl)
 |c (r:LU)
def pwE:Pw->LR
 |.d q=>plE q
 |.c r=>[.sl ptE r,.val (.bool false)]
def pwP:Pw->Pl
 |.d q=>q
 |.c r=>⟨r,false⟩
def zxK{q:Prop}{j:Decidable q}(h:¬q):LEd (.val (.bool false)) (.pr q j):=λS w v c=>by
 cases c
 have:=D.pr (S:=S) (w:=w) q j
 simpa[h] using this
def LE_pw(l:List Pw):LE (.sl pwE l) (.sl plE (l.map pwP)):=zA8 pwP λx _=>by
 cases x with
 |d q=>exact .refl
 |c r=>exact .C (.cons (zxK (show¬(false=true) by decide)) .nil)
def zn2(p:Pl)(q:Nat×Nat):Pw:=if p.cl=true/\q.1=0/\(q.2:Int)=zL p then .d (zu p) else .c (vp (zi p) q.1 q.2)
def zDH(p:Pl)(q:Nat×Nat):pwP (zn2 p q)=j7 p q:=by
 unfold zn2 j7
 split <;> rfl
def zxL(p:Pl)(l:List (Nat×Nat)):(l.map (zn2 p)).map pwP=l.map (j7 p):=by
 rw[Yo];exact KR λq _=>zDH p q
variable{pen:Pen}
def zju{long:Int}:∀q∈kS pen long,q.1<q.2/\(q.2:Int)<=long/\1<=long:=by
 intro q c;unfold kS at c
 split at c
 .cases c
 rename_i h;have d:¬long<1:=λk=>h (.inr (.inl k))
 split at c
 .have:=Xu.1 c;subst this;dsimp only;omega
 have:=zlw q c;omega
def zgl(p:Pl)(e:p.pts.length<=4096):0<=zL p/\zL p<=17596481011712:=by
 have h:=zaj (zi p) ((zi p).length-1);have c:=jK (zu p);have d:=jx p;rw[←yM]at c;unfold zL;omega
variable{p:Pl}
def zsg(h:1<=zL p):2<=(zi p).length:=by
 refine Q6 λk=>?_
 have:=zrH (p:=p) oM;omega
def zfi{q:Nat×Nat}(f:p.pts.length<=4096)(h:q∈kS pen (zL p)):0<(j7 p q).pts.length/\(j7 p q).pts.length<=4100:=by
 obtain⟨_,_,c⟩:=zju q h;have d:=zsg c;have ll:=jK (zu p);have dl:=jx p;rw[←yM]at ll;unfold j7
 split
 .rename_i k
  have:(zu p).pts.length≠0:=λe=>by
   have:=zb0 (q:=zu p) oM;rw[←yM]at this;omega
  omega
 have:=zpO (zi p) q.1 q.2;dsimp only;omega
def zhu(a b:LZ):js (a++b)=js a+js b:=by unfold js;simp
def zfj:∀{l:LZ},(∀x∈l,0<x.pts.length)->l.length<=js l
 |[],_=>Xh _
 |x::r,h=>by
  have d:=h x (.head _);have f:=zfj (l:=r) λy c=>h y (.tail _ c)
  have e:js (x::r)=x.pts.length+js r:=by unfold js;simp
  rw[e,Xn];omega
def zgm(p:Pl)(pen:Pen)(j:Nat):Nat:=js (((kS pen (zL p)).take j).map (j7 p))
def zxM{j:Nat}{y:Nat×Nat}(h:(kS pen (zL p))[j]?=some y):zgm p pen (j+1)=zgm p pen j+(j7 p y).pts.length:=by
 unfold zgm;rw[Xm,h,XA,zhu];show _+js [j7 p y]=_;unfold js;simp
def zDI(p:Pl)(pen:Pen)(j:Nat):zgm p pen j<=js ((kS pen (zL p)).map (j7 p)):=by
 have e:(kS pen (zL p)).map (j7 p)=((kS pen (zL p)).take j).map (j7 p)++((kS pen (zL p)).drop j).map (j7 p):=by
  rw[←XA,Kr]
 rw[e,zhu];exact Q4 _ _
def zDJ{p:Pl}{pen:Pen}(c:p.pts.length<=4096)(j:Nat):((kS pen (zL p)).take j).length<=zgm p pen j:=by
 have:=zfj (l:=((kS pen (zL p)).take j).map (j7 p)) λx e=>by
  obtain⟨q,d,rfl⟩:=XN.1 e;exact(zfi c (XO d)).1
 rwa [Xw]at this
def dM(p:Pl)(pen:Pen)(j:Nat):LT:=
 [(0,.box 193 [.sl ptE p.pts,pr (p.cl=true)]),(1,.box 186 [nS]),(2,.box 42 [i64 0]),(3,.box 271 (meE (meQ (zu p)))),
  (4,.box 186 [.own 6]),(5,.box 3 [i64 (zgm p pen j:Int)]),(6,.arr 193 pwE 2 (((kS pen (zL p)).take j).map (zn2 p)))]
def dB(p:Pl):LT:=
 [(0,.box 193 [.sl ptE p.pts,pr (p.cl=true)]),(1,.box 186 [nS]),(2,.box 42 [i64 0]),(3,.box 271 (meE (meQ (zu p)))),
  (4,.box 186 [.sl ptE (List.replicate 9223372036854775808 zp)]),(5,.box 3 [i64 4097])]
def dS(p:Pl)(pen:Pen)(j:Nat):LT:=if zgm p pen j<=4096 then dM p pen j else dB p
def zvN{S Pm:LI}{O:zh}{w:World}{v:Value}:¬G S Pm O w (.sl ptE (List.replicate 9223372036854775808 zp)) v:=λf=>by
 have key:∀{xs:LU} {u:Value},D S w (.sl ptE xs) u->xs.length<=9223372036854775807:=λe=>by
  cases e with
  |nil=>decide
  |sl _ _ sz b o cap c g hS d=>exact d
 have:=key f.sl_inv;rw[Kq]at this;omega
def zDK{a s:SV}:LE (.tup [.sl ptE (List.replicate 9223372036854775808 zp),a]) s:=λS Pm O w v e=>by
 cases e with
 |d _ _ c=>cases c
 |tup i vs f h=>
  obtain⟨u,g⟩:∃u,vs[0]?=some u:=⟨_,Xb (by rw[f];exact Nat.succ_pos 1)⟩;exact absurd (h 0 _ u rfl g) zvN
def dS_pf(p:Pl)(pen:Pen)(j:Nat):zlE (dS p pen j):=by
 unfold dS
 split
 .intro k m c;unfold dM at c;simp only[XH,XV,or_false,KJ]at c
  obtain⟨_,rfl⟩|⟨_,rfl⟩|⟨_,rfl⟩|⟨_,rfl⟩|⟨_,rfl⟩|⟨_,rfl⟩|⟨_,rfl⟩:=c
  all_goals first|rfl|trivial
 intro k m c;unfold dB at c;simp only[XH,XV,or_false,KJ]at c
 obtain⟨_,rfl⟩|⟨_,rfl⟩|⟨_,rfl⟩|⟨_,rfl⟩|⟨_,rfl⟩|⟨_,rfl⟩:=c
 all_goals first|rfl|trivial
def zA9(p:Pl)(pen:Pen)(i:p.pts.length<=4096):CX 175 [wv p,ws pen] (zpE (jC p pen)):=by
 refine vk 3 tok mix func175 rfl rfl rfl ?_
 have g:jC p pen=if¬kE pen then([],13) else if¬∀q∈p.pts,zm q then([],6) else if 4096<p.pts.length then([],5)
  else if pen.d=[] then([zu p],0) else if 4096<js ((kS pen (zL p)).map (j7 p)) then([],5) else((kS pen (zL p)).map (j7 p),0):=rfl
 refine wg (ze5 pen)<|⟨λk=>?_,λk=>?_⟩
 .have k:¬kE pen:=k;exact jv (by rw[g,Xe k])
 have k:kE pen:=Xa.1 k;rw[kI k]at g
 by_cases ok:∀q∈p.pts,zm q
 rotate_left
 .refine wg (znZ p i)<|⟨λ_=>?_,λh=>absurd (Xa.1 h) ok⟩;exact jv (by rw[g,Xe ok])
 rw[kI ok,Xc (show¬4096<p.pts.length by omega)]at g;have hM:=znZ p i;rw[zDF ok]at hM;refine wg hM<|Br.mk (λh=>absurd ok h) (λ_=>?_);intro E;refine⟨λh=>absurd (show(4096:Int)<p.pts.length from h) oM,λ_=>?_⟩;intro F;refine⟨λz:(pen.d.length:Int)=0=>?_,λz:¬(pen.d.length:Int)=0=>?_⟩
 .have z:pen.d=[]:=Xp oM;refine wg (zho p i)<|⟨Pl,plE,[zu p],rfl,wb0 ?_⟩;rw[g,Xe z];exact .refl
 rw[Xc (λh=>z (by rw[h];rfl))]at g;have lr:=zgl p i;refine wg (p_on pen (zL p))<|⟨Nat×Nat,runE,kS pen (zL p),6,[(2,.loc 0 0),(4,.loc 1 0),(5,.loc 2 0),(6,.loc 3 0),(8,.loc 4 0),(9,.loc 5 0)],dS p pen,λ_=>7,zDE pen (zL p) oM,λ_=>rfl,⟨rfl,rfl,rfl,rfl⟩,?_,⟨Xh _,rfl⟩,dS_pf p pen,?_,?_⟩
 .rw[show dS p pen 0=dM p pen 0 from Xe (Xh _)];exact zC [(0,some 0),(1,some 2),(2,some 3),(3,some 4),(4,some 5),(5,some 6),(6,none)]
 .intro j y x _;have e:=Xf x;obtain⟨H,I,G⟩:=zju y e;have w:=zxM x;have cle:=zDI p pen (j+1);have dp:=zfi i e;have bad:4096<zgm p pen (j+1)->jC p pen=([],5):=λh=>by rw[g,Xe oM]
  have dl:=jx p;have ll:=jK (zu p);rw[←yM]at ll;have B:=zsg G;have C:p.cl=true->(y.1:Int)=0->(y.2:Int)=zL p->zn2 p y=.d (zu p)/\(j7 p y).pts=(zu p).pts:=λa b c=>⟨Xe ⟨a,oM,c⟩,Xg Pl.pts (Xe ⟨a,oM,c⟩)⟩
  have D:¬(p.cl=true/\(y.1:Int)=0/\(y.2:Int)=zL p)->zn2 p y=.c (vp (zi p) y.1 y.2)/\(j7 p y).pts=vp (zi p) y.1 y.2:=λh=>
   ⟨Xc λk=>h ⟨k.1,oM,k.2.2⟩,Xg Pl.pts (Xc λk=>h ⟨k.1,oM,k.2.2⟩)⟩
  by_cases s:zgm p pen j<=4096
  .rw[show dS p pen j=dM p pen j from Xe s];have cg:=zDJ (pen:=pen) i j;refine⟨λc=>Br.mk (λc1=>Br.mk (λl=>?_) (λl=>?_)) (λc1=>?_),λc=>?_⟩
   .obtain⟨v,r⟩:=C c c1 l;rw[r]at w dp;refine wg (zho p i) λt=>wa<|Br.mk (λo=>?_) (λo=>?_)
    .have o:(4096:Int)<(zgm p pen j:Int)+((zu p).pts.length:Int):=o;refine⟨[(1,.box 186 [nS]),(2,.box 42 [i64 5])],6,zf [0,1,2,3,4,5],λk m e=>?_,jv (bad oM)⟩;simp only[XH,XV,or_false,KJ]at e
     obtain⟨_,rfl⟩|⟨_,rfl⟩:=e <;> rfl
    have o:¬(4096:Int)<(zgm p pen j:Int)+((zu p).pts.length:Int):=o;refine⟨Pw,pwE,[.d (zu p)],rfl,wb3 ?_⟩;refine⟨[.d (zu p)],rfl,wb25 ?_⟩;rw[show dS p pen (j+1)=dM p pen (j+1) from Xe oM];refine zt [0,1,2,3,4,5,9] ⟨rfl,rfl,rfl,rfl,rfl,Xg (λn=>some (Mem.box 3 [i64 n])) oM,aR ?_,tV⟩;rw[Xm,x,XA,←v];rfl
   all_goals
    have u:¬(p.cl=true/\(y.1:Int)=0/\(y.2:Int)=zL p):=by
     first
     |exact λh=>l h.2.2
     |exact λh=>c1 h.2.1
     |exact λh=>c h.1
    obtain⟨v,r⟩:=D u;rw[r]at w dp;have f:CX 253 [.agg (meE (meQ (zu p))),i64 (y.1:Int),i64 (y.2:Int)] (.sl ptE (vp (zi p) y.1 y.2)):=zFa (zu p) y.1 y.2 oM B ⟨oM,oM⟩ ⟨oM,oM⟩;refine wg f λt=>wa<|Br.mk (λo=>?_) (λo=>?_)
    .have o:(4096:Int)<(zgm p pen j:Int)+((vp (zi p) y.1 y.2).length:Int):=o;refine⟨[(1,.box 186 [nS]),(2,.box 42 [i64 5])],6,zf [0,1,2,3,4,5],λk m e=>?_,jv (bad oM)⟩;simp only[XH,XV,or_false,KJ]at e
     obtain⟨_,rfl⟩|⟨_,rfl⟩:=e <;> rfl
    have o:¬(4096:Int)<(zgm p pen j:Int)+((vp (zi p) y.1 y.2).length:Int):=o;refine⟨Pw,pwE,[.c (vp (zi p) y.1 y.2)],rfl,wb3 ?_⟩;refine⟨[.c (vp (zi p) y.1 y.2)],rfl,wb25 ?_⟩;rw[show dS p pen (j+1)=dM p pen (j+1) from Xe oM];refine zt [0,1,2,3,4,5,9] ⟨rfl,rfl,rfl,rfl,rfl,Xg (λn=>some (Mem.box 3 [i64 n])) oM,aR ?_,tV⟩;rw[Xm,x,XA,←v];rfl
  rw[show dS p pen j=dB p from Xc s];refine⟨λc=>Br.mk (λc1=>Br.mk (λl=>?_) (λl=>?_)) (λc1=>?_),λc=>?_⟩
  .obtain⟨v,r⟩:=C c c1 l;rw[r]at w dp;refine wg (zho p i) λt=>wa<|Br.mk (λo=>?_) (λo=>absurd (show(4096:Int)<4097+((zu p).pts.length:Int) by omega) o);refine⟨[(1,.box 186 [nS]),(2,.box 42 [i64 5])],6,zf [0,1,2,3,4,5],λk m e=>?_,jv (bad oM)⟩;simp only[XH,XV,or_false,KJ]at e
   obtain⟨_,rfl⟩|⟨_,rfl⟩:=e <;> rfl
  all_goals
   have u:¬(p.cl=true/\(y.1:Int)=0/\(y.2:Int)=zL p):=by
    first
    |exact λh=>l h.2.2
    |exact λh=>c1 h.2.1
    |exact λh=>c h.1
   obtain⟨v,r⟩:=D u;rw[r]at w dp;have f:CX 253 [.agg (meE (meQ (zu p))),i64 (y.1:Int),i64 (y.2:Int)] (.sl ptE (vp (zi p) y.1 y.2)):=zFa (zu p) y.1 y.2 oM B ⟨oM,oM⟩ ⟨oM,oM⟩;refine wg f λt=>wa<|Br.mk (λo=>?_) (λo=>absurd (show(4096:Int)<4097+((vp (zi p) y.1 y.2).length:Int) by omega) o);refine⟨[(1,.box 186 [nS]),(2,.box 42 [i64 5])],6,zf [0,1,2,3,4,5],λk m e=>?_,jv (bad oM)⟩;simp only[XH,XV,or_false,KJ]at e
   obtain⟨_,rfl⟩|⟨_,rfl⟩:=e <;> rfl
 intro _
 by_cases s:zgm p pen (kS pen (zL p)).length<=4096
 .rw[show dS p pen (kS pen (zL p)).length=dM p pen (kS pen (zL p)).length from Xe s];have A:(kS pen (zL p)).take (kS pen (zL p)).length=kS pen (zL p):=X9;unfold zgm at s;rw[A]at s;rw[g,Xc oM];refine zO ((LE_pw _).trans (z6 ?_)) .refl;rw[zxL,A]
 rw[show dS p pen (kS pen (zL p)).length=dB p from Xc s];exact zDK
def zvO(l:LU):CX 228 [.sl ptE l] (pr (∀p∈l,zm p)):=by
 refine zc func228<|⟨Nat,λi=>⟨[(0,.sl ptE l),(3,i64 i)],[],0,16,0⟩,λi=>i<=l.length/\∀p∈l.take i,zm p,λi=>l.length-i,0,?_,?_,?_⟩
 .exact⟨Xh _,λp c=>by cases c⟩
 .exact zC []
 rintro i ⟨h,d⟩
 intro f;refine⟨λg:(i:Int)<l.length=>?_,λg:¬(i:Int)<l.length=>?_⟩
 .refine wb λx(e:l[i]?=some x)=>?_;refine wg (ki x)<|⟨λb=>zd λk=>b (k x (Xf e)),λb=>?_⟩;have b:=Xa.1 b;refine wa<|⟨i+1,⟨oM,λp c=>?_⟩,zC [],oN⟩;rw[Xm,e]at c
  rcases Xt.1 c with c|c
  .exact d p c
  simp at c;rw[c];exact b
 rw[Xi oM]at d;exact zH d
def zvP(a b:Pt):CX 290 [wk a,wk b] (i64 (ji a b)):=by
 exact zc func290<|wg (znr b a)<|wg (zz4 (zac b a))<|.refl
def zBa(p:Pl)(l:p.pts.length<=4096):CX 289 [wv p] (.sl ptE (zi p)):=by
 refine zc func289 ?_;have dl:=jx p;refine wg (zj3 p l)<|⟨Pt,ptE,[],rfl,wb2 ?_⟩;refine⟨Nat,λi=>⟨[(3,.loc 0 0),(4,.own 1),(5,i64 i)],[(0,.box 193 (plE (zu p))),(1,.arr 28 ptE 2 ((zu p).pts.take i))],2,40,0⟩,λi=>i<=(zu p).pts.length,λi=>(zu p).pts.length-i,0,?_,?_,?_⟩
 .exact Xh _
 .exact zf [1,2]
 rintro i hi
 intro j;refine⟨λg:(i:Int)<(zu p).pts.length=>?_,λg:¬(i:Int)<(zu p).pts.length=>?_⟩
 .refine wb λx(d:(zu p).pts[i]?=some x)=>?_;refine⟨Pt,ptE,[x],rfl,wb0 ?_⟩;refine⟨[x],rfl,wb15 ?_⟩;exact wa<|⟨i+1,oM,zt [0,3] ⟨rfl,aR (by rw[Xm,d];rfl),tV⟩,oN⟩
 have f:(zu p).pts.take i=(zu p).pts:=Xi oM;have no:¬((zu p).cl=true/\2<=(zu p).pts.length)->LE (.sl ptE ((zu p).pts.take i)) (.sl ptE (zi p)):=λh=>z6 (by rw[f,yM,zpK h])
 refine⟨λc=>?_,λc=>no λh=>c h.1⟩;have c:(zu p).cl=true:=c;intro k;refine⟨λe=>?_,λe=>no λh=>e (show(2:Int)<=(zu p).pts.length by have:=h.2;omega)⟩;have e:(2:Int)<=(zu p).pts.length:=e;refine wb λx d=>?_;have d:=qu (show(zu p).pts[0]?=some x from d);refine⟨Pt,ptE,[x],rfl,wb0 ?_⟩;refine⟨[x],rfl,wb15 ?_⟩;exact z6 (by rw[f,yM,zhs c oM,d])
def zsh(p:Pl)(f:p.pts.length<=4096)(ok:∀q∈p.pts,zm q):CX 229 [wv p] (i64 (zL p)):=by
 refine zc func229 ?_;have dl:=jx p;have ll:=jK (zu p);rw[←yM]at ll;refine wg (zBa p f)<|⟨Nat,λi=>⟨[(1,.loc 0 0),(3,i64 (atS (zi p) i)),(4,.sl ptE (zi p)),(5,i64 ((i:Int)+1))],[(0,.box 193 [.sl ptE p.pts,pr (p.cl=true)])],1,32,0⟩,λi=>i<=(zi p).length-1,λi=>(zi p).length-i,0,?_,?_,?_⟩
 .exact Xh _
 .exact zf [0]
 rintro i hi
 have ar:=zaj (zi p) i;intro e;refine⟨λg=>?_,λg=>?_⟩;rotate_left
 .have g:¬(i:Int)+1<(zi p).length:=g;exact ze (by unfold zL;rw[show i=(zi p).length-1 by omega])
 have g:(i:Int)+1<(zi p).length:=g;refine wg (zvO p.pts)<|⟨λ_=>?_,λh=>absurd ok h⟩;refine wc<|wa<|wb λx c=>?_
 have c:=qu (show(zi p)[i]?=some x by
  have c:(zi p)[((i:Int)+1-1).toNat]?=some x:=c
  rwa [show((i:Int)+1-1).toNat=i by omega]at c)
 refine wb λy d=>?_;have d:=qu (show(zi p)[i+1]?=some y from d);refine wg (zvP x y) ?_;have pc:=yz x y;(iterate 2 refine wa ?_);exact⟨i+1,oM,zP [0] ⟨rfl,iR (by rw[c,d];rfl),rfl,iR oM,tV⟩ ⟨rfl,tV⟩,oN⟩
def zFb(d:LV)(j:uB d):CX 291 [.sl zM d] (.tup [i64 (qF d),i64 (drawn d)]):=by
 refine zc func291 ?_;obtain⟨e,h,q,s⟩:=yk j;refine⟨Nat,λi=>⟨[(0,.sl zM d),(4,i64 (qC d i)),(5,i64 (256*u7 0 d i)),(6,i64 i)],[],0,32,0⟩,λi=>i<=d.length,λi=>d.length-i,0,?_,?_,?_⟩
 .exact Xh _
 .exact zC []
 rintro i hi
 have l:=zeu e hi;have m:=zb1 d i hi;have t:=yj (r:=0) e i hi;have q1:=yj (r:=1) e i hi;intro k;refine⟨λg:(i:Int)<d.length=>?_,λg:¬(i:Int)<d.length=>?_⟩
 .refine wb λx(c:d[i]?=some x)=>?_;have n:=e x (Xf c);have o:=h x (Xf c);(iterate 2 refine wa ?_);refine Dv.pos ⟨oM,dC⟩<|⟨λev=>?_,λev=>?_⟩
  .have ev:(i:Int)%2=0:=ev;refine wb λx' f=>?_;have ex:x'=x:=Xl ((show d[i]?=some x' from f).symm.trans c);rw[ex];(iterate 3 refine wa ?_);exact⟨i+1,oM,jo [] ⟨rfl,iR (yp c).symm,iR (by rw[zfg c oM];omega),rfl,tV⟩ trivial,oN⟩
  have ev:¬(i:Int)%2=0:=ev;exact wa<|⟨i+1,oM,jo [] ⟨rfl,iR (yp c).symm,iR (by rw[ziK oM]),rfl,tV⟩ trivial,oN⟩
 have ei:i=d.length:=oM;exact zO (ze (by rw[ei,yL])) (ze (by rw[ei];rfl))
def zGI(pen:Pen)(t:Nat)(k:kE pen)(hper:0<qF pen.d)(ht:(t:Int)<=70368744177664):CX 292 [ws pen,i64 t] (.tup [i64 ((yy pen.d (phD pen t) 0).1:Int),i64 (yy pen.d (phD pen t) 0).2]):=by
 refine zc func292 ?_;obtain⟨j,o,A,B⟩:=yk k.2.2.2.2.1;have r:=k.2.2.2.2.2;refine wg (zFb pen.d k.2.2.2.2.1) ?_;have C:=Kh (256*pen.ph) (show qF pen.d≠0 by omega);have D:=Kd (256*pen.ph) hper;have E:=Kh (t:Int) (show qF pen.d≠0 by omega);have F:=Kd (t:Int) hper;have n:=Kh ((t:Int)%qF pen.d+256*pen.ph%qF pen.d) (show qF pen.d≠0 by omega);have z:=Kd ((t:Int)%qF pen.d+256*pen.ph%qF pen.d) hper;refine wc ?_
 refine Dv.pos ⟨oM,oM⟩<|wa<|Dv.pos ⟨oM,oM⟩<|wa<|Dv.pos ⟨oM,oM⟩ ?_;have ek:phD pen t=((t:Int)%qF pen.d+256*pen.ph%qF pen.d)%qF pen.d:=rfl;rw[←ek]at n z;refine⟨Nat,λi=>⟨[(2,.loc 0 0),(8,i64 (phD pen t-qC pen.d i)),(9,i64 i)],[(0,.box 61 (jg pen))],1,59,0⟩,λi=>i<=pen.d.length/\qC pen.d i<=phD pen t,λi=>pen.d.length-i,0,?_,?_,?_⟩
 .exact⟨Xh _,by rw[uu];exact n⟩
 .exact zP [0] ⟨rfl,iR (by rw[uu,Int.sub_zero];exact ek.symm),rfl,tV⟩ ⟨rfl,tV⟩
 rintro i ⟨hi,l⟩
 have s:=zeu j hi;intro q;refine⟨λg:(i:Int)<pen.d.length=>?_,λg:¬(i:Int)<pen.d.length=>?_⟩
 .refine wb λx(f:pen.d[i]?=some x)=>?_;have same:∀y,pen.d[(i:Int).toNat]?=some y->y=x:=λy h=>Xl ((show pen.d[i]?=some y from h).symm.trans f)
  have v:=j x (Xf f);have w:=o x (Xf f);have u:=yp f;refine wa<|Br.mk (λc=>?_) (λc=>?_)
  .have c:phD pen t-qC pen.d i<256*x:=c;have m:=zfa (i0:=0) j f l oM;refine wc<|wb λx' e=>?_;rw[same x' e];(iterate 2 refine wa ?_);refine zO (ze ?_) (ze ?_)
   .rw[m];show(i:Int)=((0+i:Nat):Int);omega
   rw[m];dsimp only;omega
  have c:¬phD pen t-qC pen.d i<256*x:=c;refine wb λx' e=>?_;rw[same x' e];(iterate 3 refine wa ?_);exact⟨i+1,⟨oM,oM⟩,zP [0] ⟨rfl,iR (by rw[u];omega),rfl,tV⟩ ⟨rfl,tV⟩,oN⟩
 have:qC pen.d i=qF pen.d:=by rw[show i=pen.d.length by omega,yL]
 omega
def zew(pen:Pen)(a:Nat):Int:=(yy pen.d (phD pen a) 0).2
def zbI(pen:Pen)(long:Nat):Nat->Nat->Nat
 |0,a=>a
 |k+1,a=>if a<long/\(kM (onD pen) a).length<=4096 then zbI pen long k (a+(min (zew pen a) ((long:Int)-a)).toNat) else a
def qL(pen:Pen)(long:Int):List (Nat×Nat):=
 if¬kE pen∨long<1∨(0<qF pen.d/\drawn pen.d=0) then[]
 else if qF pen.d=drawn pen.d then[(0,long.toNat)] else kM (onD pen) (zbI pen long.toNat long.toNat 0)
variable{a:Nat}
def zxN{long k:Nat}(h:¬(a<long/\(kM (onD pen) a).length<=4096)):zbI pen long k a=a:=by
 cases k with
 |zero=>rfl
 |succ k=>unfold zbI;rw[Xc h]
def zlS{pen:Pen}{a:Nat}(l:uB pen.d)(hper:0<qF pen.d):∃e,pen.d[(yy pen.d (phD pen a) 0).1]?=some e/\1<=zew pen a/\zew pen a<=256*e/\
  qF pen.d ∣ qC pen.d ((yy pen.d (phD pen a) 0).1+1)-zew pen a-((a:Int)+256*pen.ph):=by
 obtain⟨f,m,n,o⟩:=yk l;have g:=Kh ((a:Int)+256*pen.ph) (show qF pen.d≠0 by omega);have h:=Kd ((a:Int)+256*pen.ph) hper;rw[←zsb pen a]at g h;obtain⟨i,e,c,j,k⟩:=zps f g h;have gp:=zfa (i0:=0) f c j k;have gs:=yp c;unfold zew;rw[gp,X8];refine⟨e,c,oN,oN,?_⟩;dsimp only;rw[show qC pen.d (i+1)-(qC pen.d i+256*e-phD pen a)-((a:Int)+256*pen.ph)=phD pen a-((a:Int)+256*pen.ph) by omega,zsb]
 have:=Yx ((a:Int)+256*pen.ph) (qF pen.d);exact⟨-(((a:Int)+256*pen.ph)/qF pen.d),by rw[QN];omega⟩
def zxO{pen:Pen}{a b:Nat}(g:uB pen.d)(hper:0<qF pen.d)(f:a<b)(s:(b:Int)<=a+zew pen a):
  ((yy pen.d (phD pen a) 0).1%2=0->z9 (onD pen) b=((z9 (onD pen) a).1,some ((z9 (onD pen) a).2.getD a)))/\(¬(yy pen.d (phD pen a) 0).1%2=0->z9 (onD pen) b=(kM (onD pen) a,none)):=by
 obtain⟨h,n,o,q⟩:=yk g;obtain⟨e,i,r,j,l⟩:=zlS (a:=a) g hper;have on:∀t,a<=t->t<b->(onD pen t↔(yy pen.d (phD pen a) 0).1%2=0):=λt ht m=>zE9 h i j l ht oM
 exact⟨λk=>zAo f λt a b=>(on t a b).2 k,λk=>zvy f λt a b c=>k ((on t a b).1 c)⟩
variable{on:LI}{b:Nat}
def zmR[DecidablePred on](h:a<=b):(kM on a).length<=(kM on b).length:=by
 obtain⟨k,rfl⟩:∃k,b=a+k:=⟨b-a,oM⟩;clear h
 induction k with
 |zero=>exact Xj _
 |succ k c=>
  refine XB c ?_;show(kM on (a+k)).length<=(kM on (a+k+1)).length;unfold kM;rw[vj]
  split
  .cases (z9 on (a+k)).2 <;> simp
  cases (z9 on (a+k)).2 <;> simp
def zvQ{pen:Pen}{long:Nat}:∀(k a:Nat),a<=long->zbI pen long k a<=long
 |0,a,h=>h
 |k+1,a,h=>by
  unfold zbI
  split
  .exact zvQ k _ oM
  exact h
def zsi{pen:Pen}{long:Nat}(f:uB pen.d)(hper:0<qF pen.d):∀(k a:Nat),a<=long->long-a<=k->zbI pen long k a=long∨4096<(kM (onD pen) (zbI pen long k a)).length
 |0,a,h,i=>.inl (by show a=long;omega)
 |k+1,a,h,i=>by
  obtain⟨e,j,l,m,n⟩:=zlS (a:=a) f hper;unfold zbI
  split
  .rename_i c;exact zsi f hper k _ oM oM
  rename_i c
  by_cases g:a<long
  .exact .inr (by have:¬(kM (onD pen) a).length<=4096:=λk=>c ⟨g,k⟩;omega)
  exact .inl oM
def zsj(pen:Pen)(long:Int):(qL pen long=kS pen long∨(4096<(qL pen long).length/\4096<(kS pen long).length))/\∀q∈qL pen long,q.1<q.2/\(q.2:Int)<=long/\1<=long:=by
 unfold qL kS
 split
 .exact⟨.inl rfl,λq c=>by cases c⟩
 rename_i h;have j:kE pen:=Xa.1 λk=>h (.inl k)
 have t:¬long<1:=λk=>h (.inr (.inl k))
 split
 .refine⟨.inl rfl,λq c=>?_⟩;have:=Xu.1 c;subst this;dsimp only;omega
 rename_i l;have g:=j.2.2.2.2.1;obtain⟨f,n,o,s⟩:=yk g;have e:=zb1 pen.d pen.d.length (Xj _);rw[yL]at e;have u:=yj (r:=0) f pen.d.length (Xj _);have q1:=yj (r:=1) f pen.d.length (Xj _);have i:=zev pen.d;have hper:0<qF pen.d:=oM;have m:=zvQ (pen:=pen) (long:=long.toNat) long.toNat 0 (Xh _);refine⟨?_,λq c=>?_⟩
 .rcases zsi (long:=long.toNat) g hper long.toNat 0 (Xh _) oM with h|h
  .rw[h];exact .inl rfl
  exact .inr ⟨h,Xx h (zmR m)⟩
 have:=zlw q c;omega
def zxP[DecidablePred on]{z:Nat×Nat}(h:(kM on a)[(kM on a).length-1]?=some z):(z.2=a↔∃f,(z9 on a).2=some f)/\∀f,(z9 on a).2=some f->z=(f,a):=by
 unfold kM at h
 cases c:(z9 on a).2 with
 |some f=>
  rw[c]at h;have h:((z9 on a).1++[(f,a)])[((z9 on a).1++[(f,a)]).length-1]?=some z:=h;rw[Xq,show(z9 on a).1.length+[(f,a)].length-1=(z9 on a).1.length from rfl,Qz]at h
  cases h
  exact⟨⟨λ_=>⟨f,rfl⟩,λ_=>rfl⟩,λg d=>by cases d;rfl⟩
 |none=>
  rw[c]at h;have h:((z9 on a).1++[])[((z9 on a).1++[]).length-1]?=some z:=h;rw[XC]at h;have:=((zcA (on:=on) a).1 z (Xf h)).2;exact⟨⟨λk=>by omega,λ⟨f,k⟩=>by cases k⟩,λf k=>by cases k⟩
def ziM(q:Int×Int):LR:=[i64 q.1,i64 q.2]
def rI(l:List (Nat×Nat)):List (Int×Int):=l.map λq=>((q.1:Int),(q.2:Int))
def zuc(l:List (Nat×Nat))(q:Nat×Nat):rI (l++[q])=rI l++[((q.1:Int),(q.2:Int))]:=by unfold rI;rw[XA];rfl
def zlT(l:List (Nat×Nat)):(rI l).length=l.length:=by unfold rI;simp
def zBb{l:List (Nat×Nat)}{i:Nat}{z:Int×Int}(h:(rI l)[i]?=some z):∃q,l[i]?=some q/\z=((q.1:Int),(q.2:Int)):=by
 unfold rI at h;rw[XD]at h
 cases c:l[i]? with
 |none=>rw[c]at h;cases h
 |some q=>rw[c]at h;exact⟨q,rfl,(Xl h).symm⟩
def zBc[DecidablePred on](h:z9 on b=(kM on a,none)):kM on b=kM on a:=by
 show(z9 on b).1++((z9 on b).2.map λf=>(f,b)).toList=_;rw[h];exact XC _
def zsk[DecidablePred on]{f:Nat}(h:z9 on b=((z9 on a).1,some ((z9 on a).2.getD a)))(c:(z9 on a).2=some f):
  kM on a=(z9 on a).1++[(f,a)]/\kM on b=(z9 on a).1++[(f,b)]:=by
 constructor
 .unfold kM;rw[c];rfl
 show(z9 on b).1++((z9 on b).2.map λf=>(f,b)).toList=_;rw[h,c];rfl
def zBd[DecidablePred on](h:z9 on b=((z9 on a).1,some ((z9 on a).2.getD a)))(c:(z9 on a).2=none):
  kM on b=kM on a++[(a,b)]:=by
 show(z9 on b).1++((z9 on b).2.map λf=>(f,b)).toList=((z9 on a).1++((z9 on a).2.map λf=>(f,a)).toList)++[(a,b)];rw[h,c];simp
def zGJ(pen:Pen)(long:Int)(t:kE pen)(hlong:long<=70368744177664):CX 230 [ws pen,i64 long,i64 4096] (.sl ziM (rI (qL pen long))):=by
 refine zc func230<|⟨Int×Int,ziM,[],rfl,wb2 ?_⟩;have bad:(¬kE pen∨long<1∨(0<qF pen.d/\drawn pen.d=0))->([]:List (Int×Int))=rI (qL pen long):=λh=>by unfold qL;rw[Xe h];rfl
 have v:=t.2.2.2.2.1;obtain⟨I,O,d3,d4⟩:=yk v;have D:=zb1 pen.d pen.d.length (Xj _);rw[yL]at D;have q0:=yj (r:=0) I pen.d.length (Xj _);have q1:=yj (r:=1) I pen.d.length (Xj _);have V:=zev pen.d;refine wg (zFb pen.d v)<|⟨λn=>?_,λn=>?_⟩
 .have n:long<1:=n;exact z6 (bad (.inr (.inl n)))
 have n:¬long<1:=n;refine wg (zc9 pen)<|⟨λh=>absurd t h,λ_=>?_⟩
 have good:(qF pen.d=drawn pen.d->rI (qL pen long)=[((0:Int),long)])/\(¬qF pen.d=drawn pen.d->¬(0<qF pen.d/\drawn pen.d=0)->qL pen long=kM (onD pen) (zbI pen long.toNat long.toNat 0)):=by
  refine⟨λh=>?_,λh Q=>?_⟩
  .unfold qL;rw[Xc (λk=>by rcases k with k|k|k;exact k t;exact n k;omega),Xe h];show[(((0:Nat):Int),((long.toNat:Nat):Int))]=_;rw[show((long.toNat:Nat):Int)=long by omega];rfl
  unfold qL;rw[Xc (λk=>by rcases k with k|k|k;exact k t;exact n k;exact Q k),Xc h]
 refine⟨λpp=>Br.mk (λdz=>?_) (λdz=>?_),λpp=>?_⟩
 .have pp:0<qF pen.d:=pp;have dz:drawn pen.d=0:=dz;exact z6 (bad (.inr (.inr ⟨pp,dz⟩)))
 all_goals
  have npd:¬(0<qF pen.d/\drawn pen.d=0):=by
   first
   |exact λh=>dz h.2
   |exact λh=>pp h.1
  clear pp;refine⟨λe:qF pen.d=drawn pen.d=>?_,λe:¬qF pen.d=drawn pen.d=>?_⟩
  .refine⟨Int×Int,ziM,[((0:Int),long)],rfl,wb0 ?_⟩;refine⟨[((0:Int),long)],rfl,wb4 ?_⟩;exact z6 (good.1 e).symm
  have hR:=good.2 e npd;have hper:0<qF pen.d:=oM
  refine⟨Nat×Nat,λs=>⟨[(1,i64 long),(2,i64 4096),(3,.loc 0 0),(7,.own 1),(10,i64 (s.2:Int))],[(0,.box 61 (jg pen)),(1,.arr 254 ziM 2 (rI (kM (onD pen) s.2)))],2,107,0⟩,
   λs=>s.2<=long.toNat/\long.toNat-s.2<=s.1/\zbI pen long.toNat s.1 s.2=zbI pen long.toNat long.toNat 0,λs=>s.1,(long.toNat,0),?_,?_,?_⟩
  .exact⟨Xh _,Xj _,rfl⟩
  .exact zf [0,1]
  rintro⟨k,a⟩ ⟨R,S,y⟩
  dsimp only at R S y;have len:=zlT (kM (onD pen) a);have over:¬(a<long.toNat/\(kM (onD pen) a).length<=4096)->LE (.sl ziM (rI (kM (onD pen) a))) (.sl ziM (rI (qL pen long))):=λh=>z6 (by rw[hR,←y,zxN h])
  refine⟨λg=>?_,λg=>over λh=>g (show(a:Int)<long by omega)⟩;have g:(a:Int)<long:=g;intro W;refine⟨λu=>?_,λu=>over λh=>u (show((rI (kM (onD pen) a)).length:Int)<=4096 by omega)⟩;have u:((rI (kM (onD pen) a)).length:Int)<=4096:=u;obtain⟨x,p1,p2,p3,p4⟩:=zlS (a:=a) v hper;have ax:=O x (Xf p1);refine wg (zGI pen a t hper oM)<|wa ?_;obtain⟨b,U⟩:∃b,b=a+(min (zew pen a) ((long.toNat:Int)-a)).toNat:=⟨_,rfl⟩
  obtain⟨rOn,rOff⟩:=zxO (b:=b) v hper (show a<b by omega) oM;have A:k=(k-1)+1:=oM;have i:b<=long.toNat:=oM;have j:long.toNat-b<=k-1:=oM
  have l:zbI pen long.toNat (k-1) b=zbI pen long.toNat long.toNat 0:=by
   rw[←y]
   conv=>rhs;rw[A]
   show _=if a<long.toNat/\(kM (onD pen) a).length<=4096 then zbI pen long.toNat (k-1) (a+(min (zew pen a) ((long.toNat:Int)-a)).toNat) else a
   rw[Xe ⟨oM,oM⟩,←U]
  have p5:(yy pen.d (phD pen a) 0).2=zew pen a:=rfl;refine⟨λc=>Ar.fit oM ?_,λc=>?_⟩;have hT:((a:Int)+(yy pen.d (phD pen a) 0).2)=(b:Int):=by have c:zew pen a<long-a:=c;omega
  rotate_left;have hT:long=(b:Int):=by have c:¬zew pen a<long-a:=c;omega
  all_goals
   intro X;refine Dv.pos ⟨oM,dC⟩<|⟨λev=>?_,λev=>?_⟩
   .have ev:(yy pen.d (phD pen a) 0).1%2=0:=by have ev:((yy pen.d (phD pen a) 0).1:Int)%2=0:=ev;omega
    have rOn:=rOn ev;have new:∀T:Int,T=(b:Int)->(z9 (onD pen) a).2=none->rI (kM (onD pen) a)++[((a:Int),T)]=rI (kM (onD pen) b):=λT hT h=>by rw[zBd rOn h,zuc,hT]
    refine⟨λY=>?_,λH=>?_⟩
    .have H:(0:Int)<((rI (kM (onD pen) a)).length:Int):=Y;refine wa<|wb<|wb λz M=>?_;obtain⟨q,L,o⟩:=zBb (show(rI (kM (onD pen) a))[(((rI (kM (onD pen) a)).length:Int)-1).toNat]?=some z from M);rw[show(((rI (kM (onD pen) a)).length:Int)-1).toNat=(kM (onD pen) a).length-1 by omega]at L;obtain⟨N,Z⟩:=zxP L;refine⟨λm:z.2=(a:Int)=>?_,λm=>?_⟩
     .obtain⟨f,K⟩:=N.1 (by rw[o]at m;dsimp only at m;omega);obtain⟨J,P⟩:=zsk rOn K;have F:z.1=(f:Int):=by rw[o,Z f K]
      have ll:((((rI (kM (onD pen) a)).length:Int)-1).toNat)=(rI (z9 (onD pen) a).1).length:=by
       have:(kM (onD pen) a).length=(z9 (onD pen) a).1.length+1:=by rw[J,Xq];rfl
       rw[zlT]at len ⊢;rw[zlT];omega
      refine wa<|wb<|wb λw E=>?_;have G:w=z:=Xl (E.symm.trans M)
      first|refine⟨(w.1,((a:Int)+(yy pen.d (phD pen a) 0).2)),rfl,?_⟩|refine⟨(w.1,long),rfl,?_⟩
      have eq:∀T:Int,T=(b:Int)->(rI (kM (onD pen) a)).set (((rI (kM (onD pen) a)).length:Int)-1).toNat (w.1,T)=rI (kM (onD pen) b):=by
       intro T hT;rw[ll,J,P,zuc,zuc,zj0 rfl,G,F,hT]
      exact⟨(k-1,b),⟨i,j,l⟩,zP [0,1] ⟨rfl,rfl,rfl,rfl,iR hT,tV⟩ ⟨rfl,aR (eq _ hT),tV⟩,oN⟩
     have m:¬z.2=(a:Int):=m
     have B:(z9 (onD pen) a).2=none:=by
      cases C:(z9 (onD pen) a).2 with
      |none=>rfl
      |some f=>exact absurd (by rw[o];dsimp only;rw[N.2 ⟨f,C⟩]) m
     refine Dv.pos ⟨oM,dC⟩<|⟨λ_=>?_,λh=>absurd (show((yy pen.d (phD pen a) 0).1:Int)%2=0 by omega) h⟩;refine⟨Int×Int,ziM,[((a:Int),_)],rfl,wb0 ?_⟩;refine⟨[((a:Int),_)],rfl,wb4 ?_⟩;exact⟨(k-1,b),⟨i,j,l⟩,zP [0,3] ⟨rfl,rfl,rfl,rfl,iR hT,tV⟩ ⟨rfl,aR (new _ hT B),tV⟩,oN⟩
    have H:¬(0:Int)<((rI (kM (onD pen) a)).length:Int):=H
    have B:(z9 (onD pen) a).2=none:=by
     cases C:(z9 (onD pen) a).2 with
     |none=>rfl
     |some f=>
      have:(kM (onD pen) a).length=(z9 (onD pen) a).1.length+1:=by rw[(zsk rOn C).1,Xq];rfl
      omega
    refine Dv.pos ⟨oM,dC⟩<|⟨λ_=>?_,λh=>absurd (show((yy pen.d (phD pen a) 0).1:Int)%2=0 by omega) h⟩;refine⟨Int×Int,ziM,[((a:Int),_)],rfl,wb0 ?_⟩;refine⟨[((a:Int),_)],rfl,wb4 ?_⟩;exact⟨(k-1,b),⟨i,j,l⟩,zP [0,3] ⟨rfl,rfl,rfl,rfl,iR hT,tV⟩ ⟨rfl,aR (new _ hT B),tV⟩,oN⟩
   have ev:¬(yy pen.d (phD pen a) 0).1%2=0:=by have ev:¬((yy pen.d (phD pen a) 0).1:Int)%2=0:=ev;omega
   refine Dv.pos ⟨oM,dC⟩<|⟨λh=>absurd (show((yy pen.d (phD pen a) 0).1:Int)%2=0 from h) oM,λ_=>?_⟩;exact⟨(k-1,b),⟨i,j,l⟩,zP [0,1] ⟨rfl,rfl,rfl,rfl,iR hT,tV⟩ ⟨rfl,aR (by rw[zBc (rOff ev)]),tV⟩,oN⟩
def zud(q:LU)(x:Pt)(j:q.length<=100000):CG0 293 [.sl ptE q,wk x] [] (.own 0) [(0,.arr 28 ptE 2 (y4 q x))]:=by
 refine qA tok mix func293 rfl rfl rfl<|⟨Pt,ptE,[],rfl,wb2 ?_⟩;refine⟨Nat,λi=>⟨[(0,.sl ptE q),(3,.loc 0 0),(5,.own 1),(6,i64 i)],[(0,.box 28 (ptE x)),(1,.arr 28 ptE 2 (q.take i))],2,40,0⟩,λi=>i<=q.length,λi=>q.length-i,0,?_,?_,?_⟩
 .exact Xh _
 .exact zf [0,1]
 rintro i hi
 intro e;refine⟨λg:(i:Int)<q.length=>?_,λg:¬(i:Int)<q.length=>?_⟩
 .refine wb λy(c:q[i]?=some y)=>?_;refine⟨Pt,ptE,[y],rfl,wb0 ?_⟩;refine⟨[y],rfl,wb15 ?_⟩;exact wa<|⟨i+1,oM,zt [0,3] ⟨rfl,aR (by rw[Xm,c];rfl),tV⟩,oN⟩
 have d:q.take i=q:=Xi oM;have tl:(q.take i).length<=100000:=by rw[d];exact j
 intro f;refine wd<|Br.mk (λz=>?_) (λz=>?_)
 .have z:(q.length:Int)=0:=z;refine wh<|⟨Pt,ptE,[x],rfl,wb0 ?_⟩;refine⟨[x],rfl,wb4 ?_⟩;exact⟨some 3,.own _ rfl,aR (by rw[d,zpA oM]),λ_ _=>rfl⟩
 have z:¬(q.length:Int)=0:=z;refine wa<|wb λy c=>?_
 have c:q[q.length-1]?=some y:=by
  have c:q[((q.length:Int)-1).toNat]?=some y:=c
  rwa [show((q.length:Int)-1).toNat=q.length-1 by omega]at c
 refine wh<|⟨λk=>?_,λk=>?_⟩
 .have k:¬y=x:=λh=>k (qm.2 h)
  refine⟨Pt,ptE,[x],rfl,wb0 ?_⟩;refine⟨[x],rfl,wb4 ?_⟩;exact⟨some 3,.own _ rfl,aR (by rw[d,zj1 c k]),λ_ _=>rfl⟩
 have k:y=x:=qm.1 (Xa.1 k);exact⟨some 1,.own _ rfl,aR (by rw[d,zpz c k]),λ_ _=>rfl⟩
def zlU{c:LU}{i j:Nat}(h:i<=j):atS c i<=atS c j:=by
 obtain⟨k,rfl⟩:∃k,j=i+k:=⟨j-i,oM⟩;clear h
 induction k with
 |zero=>exact K9 _
 |succ k d=>
  have:=yz (nth c (i+k)) (nth c (i+k+1));show atS c i<=atS c (i+k)+ji (nth c (i+k)) (nth c (i+k+1));omega
def zBe{c:LU}{x:Int}{i:Nat}(d:¬x<atS c i)(f:x<atS c (i+1)):∀m,i<=m->zlx c x m=i
 |0,h=>by
   have:i=0:=oM;subst this;rfl
 |m+1,h=>by
  by_cases e:i=m+1
  .rw[e]at d ⊢;exact zlQ d
  have:=zlU (c:=c) (show i+1<=m+1 by omega);rw[zA5 oM];exact zBe d f m oM
def zpP{c:LU}{x:Int}{i:Nat}(h:i<=c.length-2)(d:¬x<atS c i)(e:x<atS c (i+1)):zdJ c x=uK (nth c i) (nth c (i+1)) (x-atS c i) (ji (nth c i) (nth c (i+1))):=by
 unfold zdJ;rw[zBe d e _ h];dsimp only;rw[show atS c (i+1)-atS c i=ji (nth c i) (nth c (i+1)) by show atS c i+ji (nth c i) (nth c (i+1))-atS c i=_;omega]
def zxQ{a b:Pt}{d:Int}(g:1<=d/\d<=1099511627776)(c:zm a):uK a b 0 d=a:=by
 unfold uK;rw[Xc oM,zbZ c.1,zbZ c.2,show kX 0 0 d=0 from(zed oM).2 ⟨K9 0,oM⟩,Int.zero_mul,Int.zero_mul]
 have e:z8 0 d=0:=by
  have f:=zAu (M:=0) (show 0<d by omega) (K9 0) oM;omega
 rw[e]
 cases a
 simp
def zsl{x d:Int}(f:1<=d):z8 (d*x) d=x:=by
 obtain⟨D,rfl⟩:∃D:Nat,d=D:=⟨d.toNat,oM⟩;have hD:0<D:=oM
 have e:(2*((D:Int)*x).natAbs+(D:Int).natAbs)/(2*(D:Int).natAbs)=x.natAbs:=by
  rw[QK,QP,show 2*(D*x.natAbs)+D=D+(2*D)*x.natAbs by rw[KI];omega,Nat.add_mul_div_left _ _ oM,Ko oM,X8]
 unfold z8;rw[e]
 by_cases c:x<0
 .have:=Int.mul_neg_of_pos_of_neg (show(0:Int)<D by omega) c;rw[Xc oM];omega
 have:=XI (show(0:Int)<=D by omega) (show 0<=x by omega);rw[Xe oM];omega
def zxR{a b:Pt}{d:Int}(f:1<=d/\d<=1099511627776)(c:zm a)(e:zm b):uK a b d d=b:=by
 unfold uK;rw[Xc oM,zbZ c.1,zbZ c.2,zbZ e.1,zbZ e.2,show kX d 0 d=d from(zed oM).2 ⟨oM,K9 d⟩,zsl f.1,zsl f.1]
 cases b
 simp;omega
def zxS{a b:Pt}(f:zm a)(g:zm b)(h:a≠b):1<=ji a b:=by
 have j:=zlq g f;have i:=yz a b;refine JF.1 λk=>?_
 unfold ji zrk at k i;have dr:=ze4 (ju (zac b a)) (ju (zac b a))
 have d:1<=zjF (zac b a) (zac b a):=by
  unfold zjF dtp;have m:=jf (jA (zac b a)).x;have o:=jf (jA (zac b a)).y;refine JF.1 λl=>h ?_
  have zx:(jA (zac b a)).x*(jA (zac b a)).x=0:=oM;have zy:(jA (zac b a)).y*(jA (zac b a)).y=0:=oM;have zx:=(Int.mul_eq_zero.1 zx).elim id id;have zy:=(Int.mul_eq_zero.1 zy).elim id id;rw[j]at zx zy;have zx:hI (b.x-a.x)=0:=zx;have zy:hI (b.y-a.y)=0:=zy;have e:∀n,hI n=0->n=0:=λn c=>by unfold hI kX at c;split at c <;> (try split at c) <;> omega
  have:=e _ zx;have:=e _ zy
  cases a;cases b
  simp only[Pt.mk.injEq];dsimp only at*;omega
 have:=ztM (n:=65536*zjF (zac b a) (zac b a)) (a:=256) oM (by unfold zjF at d ⊢;omega) oM;omega
end Go.Gs
