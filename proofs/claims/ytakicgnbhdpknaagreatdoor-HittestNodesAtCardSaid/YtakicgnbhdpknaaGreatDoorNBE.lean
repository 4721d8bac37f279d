/- Dashes: a part cut out, in the first text. -/
import Derived.Test.YtakicgnbhdpknaaGreatDoorNBD
import GoSem.Claim
import Derived.Defers
set_option maxRecDepth 100000
set_option maxHeartbeats 8000000
set_option linter.all false
namespace Go.Gs
open Proofs.Tryz
open Go.Proofs
def zyL(q:LU)(x:Pt)(hq:0<q.length/\q.length<=100000):CG0 319 [wk x,.loc 0 0] [(0,.box 148 [.own 1]),(1,.arr 28 ptE 2 q)] (.tup []) [(0,.box 148 [.own 2]),(2,.arr 28 ptE 2 (yW q x))]:=by
 refine yB tok mix func319 rfl rfl rfl<|wd λhl=>wa<|wb<|wb λz hz=>?_
 have hz:q[q.length-1]?=some z:=by
  have hz:q[((q.length:Int)-1).toNat]?=some z:=hz
  rwa [show((q.length:Int)-1).toNat=q.length-1 by omega]at hz
 refine wh<|⟨λk=>?_,λk=>?_⟩
 ·have k:¬z=x:=λh=>k (qi.2 h)
  refine⟨Pt,ptE,[x],rfl,wb0 ?_⟩;refine⟨[x],rfl,wb3 ?_⟩;refine⟨⟨[],[(0,.box 148 [.own 2]),(2,.arr 28 ptE 2 (yW q x))],3,15,2⟩,zu [0,1,4] ⟨rfl,aR (zi8 hz k).symm,tV⟩,rfl,.refl⟩
 have k:z=x:=qi.1 (Xa.1 k);refine⟨⟨[],[(0,.box 148 [.own 2]),(2,.arr 28 ptE 2 (yW q x))],3,15,2⟩,zu [0,1,1] ⟨rfl,aR (zoq hz k).symm,tV⟩,rfl,.refl⟩
def zmX(q more:LU)(x:Pt):kw q (more++[x])=yW (kw q more) x:=by unfold kw;rw[KV];rfl
def zeH(c:LU)(f t:Int)(n:Nat):ze9 c f t (n+1)=ze9 c f t n++if f<atS c n/\atS c n<t then[nth c n] else[]:=by
 unfold ze9;rw[Kw,KN,XA];congr 1
 by_cases h:f<atS c n/\atS c n<t
 ·rw[Xe h,List.filter_cons_of_pos (by simpa using h)];rfl
 rw[Xc h,List.filter_cons_of_neg (by simpa using h)];rfl
def zbR(c:LU)(f t:Int)(n:Nat):LU:=kw [] ([zc8 c f]++ze9 c f t n)
def zqN{c:LU}{f t:Int}{n:Nat}(h:f<atS c n/\atS c n<t):zbR c f t (n+1)=yW (zbR c f t n) (nth c n):=by
 unfold zbR;rw[zeH,Xe h,←XZ,zmX]
def zua{c:LU}{f t:Int}{n:Nat}(h:¬(f<atS c n/\atS c n<t)):zbR c f t (n+1)=zbR c f t n:=by
 unfold zbR;rw[zeH,Xc h,XE]
def zqO(c:LU)(f t:Int):vf c f t=yW (zbR c f t (c.length-1)) (zc8 c t):=by
 unfold vf zbR;rw[zmX]
def zqP(c:LU)(f t:Int)(n:Nat):0<(zbR c f t n).length/\(zbR c f t n).length<=n+1:=by
 induction n with
 |zero=>exact⟨XW 0,Xk 1⟩
 |succ n ih=>
  by_cases h:f<atS c n/\atS c n<t
  ·rw[zqN h];have h1:=zgJ (zbR c f t n) (nth c n);refine⟨?_,oM⟩;unfold yW
   split
   ·exact ih.1
   simp
  rw[zua h];omega
def zoF(c:LU)(f t:Int):0<(vf c f t).length/\(vf c f t).length<=c.length+2:=by
 rw[zqO];have h:=zqP c f t (c.length-1);have h1:=zgJ (zbR c f t (c.length-1)) (zc8 c t);refine⟨?_,oM⟩;unfold yW
 split
 ·exact h.1
 simp
def zCC(q:Pl)(f t:Int)(hq:q.pts.length<=4096)(h2:2<=(zX q).length)(hf:0<=f/\f<=70368744177664)(ht:0<=t/\t<=70368744177664):CX 253 [.agg (meE (meQ q)),i64 f,i64 t] (.sl ptE (vf (zX q) f t)):=by
 refine zc func253 ?_;have ll:=jF q;have tl:(meQ q).ts.length=(zX q).length-1:=zjb ..;refine wg (zt9 q f hq h2 hf)<|⟨Pt,ptE,[zc8 (zX q) f],rfl,wb0 ?_⟩;intro hl1;refine⟨Nat,λi=>⟨[(1,i64 f),(2,i64 t),(3,.loc 0 0),(7,.loc 1 0),(8,.fn 319 [.loc 1 0]),(17,.sl zN (meQ q).ts),(18,i64 ((meQ q).ts.length:Int)),(19,i64 i)],[(0,.box 271 (meE (meQ q))),(1,.box 148 [.own 2]),(2,.arr 28 ptE 2 (zbR (zX q) f t i))],3,46,0⟩,λi=>i<=(zX q).length-1,λi=>(zX q).length-i,0,?_,?_,?_⟩
 ·exact Xh _
 ·exact zf [0,2,1]
 rintro i hi
 have cl:=zqP (zX q) f t i;refine⟨λg:(i:Int)<((meQ q).ts.length:Int)=>?_,λg:¬(i:Int)<((meQ q).ts.length:Int)=>?_⟩
 ·have stay:¬(f<atS (zX q) i/\atS (zX q) i<t)->zbR (zX q) f t i=zbR (zX q) f t (i+1):=λh=>(zua h).symm
  refine wb λy hy=>?_;have hy:=zhU (show(tsL (zX q) ((zX q).length-1))[i]?=some y from hy);refine⟨λk1=>Br.mk (λk2=>?_) (λk2=>?_),λk1=>?_⟩;rotate_left
  ·have k2:¬y<t:=k2;exact wa<|⟨i+1,oM,zu [0,1,2] ⟨rfl,rfl,aR (stay λh=>k2 (by rw[hy];exact h.2)),tV⟩,oN⟩
  ·have k1:¬f<y:=k1;exact wa<|⟨i+1,oM,zu [0,1,2] ⟨rfl,rfl,aR (stay λh=>k1 (by rw[hy];exact h.1)),tV⟩,oN⟩
  have k1:f<y:=k1;have k2:y<t:=k2;rw[hy]at k1 k2;refine Ob.mk (show 0<=(i:Int)/\(i:Int)<(q.pts.length:Int) by omega) λx hx=>?_;have hx:=qn (show q.pts[i]?=some x from hx);rw[←zbl (q:=q) (i:=i) oM]at hx
  refine zb.give [1,2] 1 [wk x,.loc 0 0] [(0,.box 148 [.own 1]),(1,.arr 28 ptE 2 (zbR (zX q) f t i))] [(0,.box 148 [.own 2]),(2,.arr 28 ptE 2 (yW (zbR (zX q) f t i) x))] (.tup []) (zyL (zbR (zX q) f t i) x ⟨cl.1,oM⟩)
   LEs.refl rfl rfl rfl ⟨⟨_,rfl,rfl,rfl⟩,⟨_,rfl,rfl,tV⟩,tV⟩ rfl ⟨⟨rfl,rfl⟩,⟨rfl,tV⟩,tV⟩ ?_
  exact wa<|⟨i+1,oM,zu [0,1,3] ⟨rfl,rfl,aR (by rw[zqN ⟨k1,k2⟩,hx]),tV⟩,oN⟩
 have ei:i=(zX q).length-1:=oM;refine wg (zt9 q t hq h2 ht) ?_
 refine zb.give [1,2] 1 [wk (zc8 (zX q) t),.loc 0 0] [(0,.box 148 [.own 1]),(1,.arr 28 ptE 2 (zbR (zX q) f t i))] [(0,.box 148 [.own 2]),(2,.arr 28 ptE 2 (yW (zbR (zX q) f t i) (zc8 (zX q) t)))] (.tup []) (zyL (zbR (zX q) f t i) (zc8 (zX q) t) ⟨cl.1,oM⟩)
  LEs.refl rfl rfl rfl ⟨⟨_,rfl,rfl,rfl⟩,⟨_,rfl,rfl,tV⟩,tV⟩ rfl ⟨⟨rfl,rfl⟩,⟨rfl,tV⟩,tV⟩ ?_
 refine zZ ?_;rw[zqO,ei]
variable{P:Program}{f:FuncId}
def law_walk'{args:LR}{vs:LA}{w:World}(h:qx P f args [] (bl true) [])(hg:∀S Pm:LI,(∀b,¬S b)->(∀b,¬Pm b)->Gs S Pm (λ_=>none) w args vs)(hgl:∀g v,GL g v->w.cell? ⟨g,0,none⟩=some v:=by intro _ _ h;cases h):
  Calls P f vs.toArray w λe w'=>e=.returned (.bool true)/\RowKit.Grown w w'/\RowKit.Below w.heap.size w w':=by
 refine(h.2 (λ_=>False) (λ_=>none) w vs (λ_ h=>h.elim) (qt (λ_ h=>h.elim) hgl) (λ_ _=>rfl) (hg _ _ (λb hb=>hb.elim id zP) (λb=>zP))).mono ?_
 rintro e w' ⟨v,ρ',rfl,hs,_,hv⟩
 refine⟨by rw[hv.val_inv],⟨⟨hs.os,hs.output.1,λi hi=>?_⟩,hs.output.2,hs.size⟩,⟨hs.os,hs.tape,hs.output.1,hs.size,λi hi=>hs.block i hi zP⟩⟩;rw[hs.block i hi zP]
 cases w.heap[i]? with
 |none=>rfl
 |some o=>cases o <;> simp
def Gs.val{S Pm:LI}{ρ:zh}{w:World}{v:Value}{cs:LR}{vs:LA}(h:Gs S Pm ρ w cs vs):Gs S Pm ρ w (.val v::cs) (v::vs):=.cons (.d _ _ (.val v)) h
def r64{n:Int}(h:(Lit.int .i64 n).wf=true):R64 n:=by
 simp only[Lit.wf,XC,decide_eq_true_eq]at h;exact h
def zaG(t:AF):List BR:=[t.a,t.b,t.c,t.d,t.e,t.f]
variable{i:Nat}
def zyW{t:AF}{x:BR}(h:(zaG t)[i]?=some x):x=t.nth i:=by
 have:i<6:=(Xd.1 h).1;have e:i=0∨i=1∨i=2∨i=3∨i=4∨i=5:=oM
 rcases e with rfl|rfl|rfl|rfl|rfl|rfl <;> (cases h;rfl)
def zyX{t:AF}{n:Nat}(h:t.le n):∀i,(t.nth i).len<=n:=λi=>by
 obtain⟨h1,h2,h3,h4,h5,h6⟩:=h;unfold AF.nth;split <;> assumption
def zhY(t:AF):CX 197 [wo t] (.sl brE (zaG t)):=by
 refine zc func197<|⟨BR,brE,zaG t,rfl,wb0 ?_⟩;exact .refl
def zce(t:AF)(ht:t.le 100000000):CX 132 [wo t] (pr t.ok):=by
 refine zc func132<|wg (zhY t)<|⟨Nat,λi=>⟨[(4,i64 i),(3,.sl brE (zaG t))],[],1,19,0⟩,λi=>i<=6/\okI t i,λi=>6-i,0,⟨Xh _,tV⟩,?_,?_⟩
 ·exact zB []
 rintro i ⟨h1,h2⟩
 intro hl;have hl6:(zaG t).length=6:=rfl;refine⟨λh3=>?_,λh3=>?_⟩
 ·refine wb5 λx(hx:(zaG t)[i]?=some x)=>?_;have hx:=zyW hx;subst hx;refine wg (zvh (t.nth i) (zyX ht i))<|⟨λh4=>?_,λh4=>?_⟩
  ·refine zd λh=>?_
   have e:i=0∨i=1∨i=2∨i=3∨i=4∨i=5:=oM;simp only[AF.ok,okI]at h
   rcases e with rfl|rfl|rfl|rfl|rfl|rfl <;> omega
  exact wa<|⟨i+1,⟨oM,h2,oM⟩,zB [],oN⟩
 have:i=6:=by omega
 subst this;exact zH h2
def zbF(a b c d:BR)(ha:a.len<=10000000)(hb:b.len<=10000000)(hc:c.len<=10000000)(hd:d.len<=10000000):
  CX 282 [wm a,wm b,wm c,wm d] (wm (ofQ (a.v*b.v+c.v*d.v))):=by
 have l1:=zO a;have l2:=zO b;have l3:=zO c;have l4:=zO d;have m1:=yH a.v b.v;have m2:=yH c.v d.v;refine zc func282<|wc<|wg (zog a b oM oM)<|wg (zog c d oM oM)<|wg (zdQ (ofQ (a.v*b.v)) (ofQ (c.v*d.v)) (by rw[zF];omega) (by rw[zF];omega)) ?_;rw[kv,kv];exact .refl
def zvU(t:AF)(x y:BR)(ht:t.le 5000000)(hx:x.len<=5000000)(hy:y.len<=5000000):
  CX 283 [wo t,wm x,wm y] (.tup [wm (ofQ (vD t x.v y.v)),wm (ofQ (vE t x.v y.v))]):=by
 obtain⟨ha,hb,hc,hd,he,hf⟩:=ht;have m1:=qQ t.a x t.c y t.e ha hx hc hy he;have m2:=qQ t.b x t.d y t.f hb hx hd hy hf;refine zc func283<|wc<|wg (zbF t.a x t.c y oM oM oM oM)<|wg (zdQ (ofQ (t.a.v*x.v+t.c.v*y.v)) t.e (by rw[zF];omega) oM)<|wg (zbF t.b x t.d y oM oM oM oM)<|wg (zdQ (ofQ (t.b.v*x.v+t.d.v*y.v)) t.f (by rw[zF];omega) oM) ?_;rw[kv,kv];exact .refl
def zcf(t:AF)(p:Pt)(ht:t.le 100000):CX 221 [wo t,wk p] (.tup [wk (kr t p).1,i64 (kr t p).2]):=by
 obtain⟨ha,hb,hc,hd,he,hf⟩:=ht;refine zc func221 ?_;have fin:∀(q:Pt) (n:Int),(kr t p)=(q,n)->LE (.tup [wk q,i64 n]) (.tup [wk (kr t p).1,i64 (kr t p).2]):=λq n h=>by rw[h];exact .refl
 refine wg (zce t ⟨oM,oM,oM,oM,oM,oM⟩)<|⟨λh1=>?_,λh1=>?_⟩
 ·exact fin zp 5 (by rw[kr,Xe h1])
 refine wg (z9 p)<|⟨λh2=>?_,λh2=>?_⟩
 ·exact fin zp 6 (by rw[kr,Xc h1,Xe h2])
 have hp:zr p:=XN h2;have hx:R64 p.x:=by unfold R64;unfold zr at hp;omega
 have hy:R64 p.y:=by unfold R64;unfold zr at hp;omega
 have lx:=zdP p.x;have ly:=zdP p.y;have zx:=jk hx;have zy:=jk hy;refine wc<|wg (yA p.x hx)<|wg (yA p.y hy)<|wg (zvU t (ofQ (p.x:Rat)) (ofQ (p.y:Rat)) ⟨oM,oM,oM,oM,oM,oM⟩ (by rw[zF];omega) (by rw[zF];omega)) ?_;rw[kv,kv];have lX:=qQ t.a (ofQ (p.x:Rat)) t.c (ofQ (p.y:Rat)) t.e (n:=100000) ha (by rw[zF];omega) hc (by rw[zF];omega) he;have lY:=qQ t.b (ofQ (p.x:Rat)) t.d (ofQ (p.y:Rat)) t.f (n:=100000) hb (by rw[zF];omega) hd (by rw[zF];omega) hf;rw[kv,kv]at lX lY
 have lh:yV (Rat.divInt 1 2)<=1:=by decide +kernel
 have mX:=zbg (vD t p.x p.y) (Rat.divInt 1 2);have mY:=zbg (vE t p.x p.y) (Rat.divInt 1 2);have lX2:yV (vD t p.x p.y)<=500007:=lX.2;have lY2:yV (vE t p.x p.y)<=500007:=lY.2
 have fl:∀q:Rat,jm q.floor<=yV q:=λq=>XB (zb0 (by
  rw[JZ]
  exact QZ _ _)) (qu q)
 have fX:=fl (vD t p.x p.y+Rat.divInt 1 2);have fY:=fl (vE t p.x p.y+Rat.divInt 1 2);refine wg (zp5 1 2 dC dC dC)<|wg (zdQ (ofQ (vD t p.x p.y)) (ofQ (Rat.divInt 1 2)) (by rw[zF];omega) (by rw[zF];omega)) ?_;rw[kv,kv];refine wg (zp6 (ofQ (vD t p.x p.y+Rat.divInt 1 2)) (by rw[zF];omega)) ?_;rw[kv];refine wg (zj2 (ofZ (vD t p.x p.y+Rat.divInt 1 2).floor) (by rw[zT];omega))<|wg (zdQ (ofQ (vE t p.x p.y)) (ofQ (Rat.divInt 1 2)) (by rw[zF];omega) (by rw[zF];omega)) ?_;rw[kv,kv]
 refine wg (zp6 (ofQ (vE t p.x p.y+Rat.divInt 1 2)) (by rw[zF];omega)) ?_;rw[kv];refine wg (zj2 (ofZ (vE t p.x p.y+Rat.divInt 1 2).floor) (by rw[zT];omega)) ?_;rw[zY,zY];obtain⟨X,hX⟩:∃X,(vD t p.x p.y+Rat.divInt 1 2).floor=X:=⟨_,rfl⟩;obtain⟨Y,hY⟩:∃Y,(vE t p.x p.y+Rat.divInt 1 2).floor=Y:=⟨_,rfl⟩;have hg:goP t p=⟨X,Y⟩:=by unfold goP;rw[hX,hY]
 rw[hX,hY];have out:¬zr ⟨X,Y⟩->kr t p=(zp,6):=λh=>by rw[kr,Xc h1,Xc h2,Xc (by rw[hg];exact h)]
 have inn:zr ⟨X,Y⟩->kr t p=(⟨X,Y⟩,0):=λh=>by rw[kr,Xc h1,Xc h2,Xe (by rw[hg];exact h),hg]
 have big:zr ⟨X,Y⟩->(-9223372036854775808<=X/\X<=9223372036854775807)/\(-9223372036854775808<=Y/\Y<=9223372036854775807):=λh=>by unfold zr at h;dsimp only at h;omega
 refine⟨λh3=>?_,λh3=>?_⟩
 ·exact fin zp 6 (out λh=>h3 (big h).1)
 have h3:=XN h3;refine⟨λh4=>?_,λh4=>?_⟩
 ·exact fin zp 6 (out λh=>h4 (big h).2)
 have h4:=XN h4;refine wg (z9 ⟨y4 X,y4 Y⟩) ?_;rw[y4,Xe h3,y4,Xe h4];refine⟨λh5=>?_,λh5=>?_⟩
 ·exact fin zp 6 (out h5)
 exact fin ⟨X,Y⟩ 0 (inn (XN h5))
def zm2(t:AF){s:Sg}(hf:zc7 s):vP t s=zfa (λp=>(kr t p).1) s:=by
 unfold vP;obtain⟨f1,f2,f3⟩:=hf;have hr:=zdG s.v;have k:nm s.v<=0∨nm s.v=1∨nm s.v=2∨nm s.v=3:=oM;unfold kB zfa zj8 part
 rcases k with k|k|k|k
 ·rw[show(nm s.v).toNat=0 by omega,f1.2 oM,f2.2 oM,f3.2 oM];rfl
 ·rw[show(nm s.v).toNat=1 by omega,f2.2 oM,f3.2 oM];rfl
 ·rw[show(nm s.v).toNat=2 by omega,f3.2 oM];rfl
 rw[show(nm s.v).toNat=3 by omega];rfl
variable{l:LX}{x:Sg}
def zhZ{t:AF}(h1:qM l){p:Pt}{k:Nat}(h0:qT t (qc (l.take i))=0)(hx:l[i]?=some x)(hk:qT t ((kB x).take k)=0)(hp:(kB x)[k]?=some p)(he:(kr t p).2≠0):trans t l=([],(kr t p).2):=by
 have e2:=(vq hk hp).2 he
 have e3:qT t (qc l)=(kr t p).2:=by
  have hd:=zgp hx
  have:qc l=qc (l.take i)++(kB x++qc (l.drop (i+1))):=by
   conv=>lhs;rw[←Kj i l,hd]
   simp[qc]
  rw[this,jC,h0];simp only[ne_eq,not_true_eq_false,if_false];rw[jC,e2,Xe he]
 rw[trans,Xc (λk=>k h1),e3,Xe he]
def zvV{t:AF}(h0:qT t (qc (l.take i))=0)(hx:l[i]?=some x)(hk:qT t (kB x)=0):qT t (qc (l.take (i+1)))=0:=by
 rw[zil hx,jC,h0];simpa using hk
def zyY(l:LX)(t:AF)(ht:t.le 100000):CX 153 [.sl sgE l,wo t] (.tup [.sl sgE (trans t l).1,i64 (trans t l).2]):=by
 refine zc func153 ?_
 have bad:∀e:Int,trans t l=([],e)->LE (.tup [nS,i64 e]) (.tup [.sl sgE (trans t l).1,i64 (trans t l).2]):=λe h=>by
  rw[h];exact zM zC .refl
 refine wg (zgq l)<|⟨λh1=>?_,λh1=>?_⟩
 ·exact bad 10 (by rw[trans,Xe h1])
 have h:=Xa.1 h1;have hvl:=zhv h;refine⟨Sg,sgE,[],rfl,wb2 ?_⟩
 refine⟨Nat,λi=>⟨[(7,i64 i),(6,.own 1),(3,.loc 0 0),(0,.sl sgE l)],[(1,.arr 108 sgE 7 ((l.take i).map (vP t))),(0,.box 57 (afE t))],2,67,0⟩,λi=>i<=l.length/\qT t (qc (l.take i))=0,λi=>l.length-i,0,⟨Xh _,rfl⟩,
  zf [0,1],?_⟩
 rintro i ⟨hil0,hi0⟩
 intro _;refine⟨λg1:(i:Int)<l.length=>?_,λg1=>?_⟩
 ·have hx:=Xb (show i<l.length by omega);generalize l[i]'oM=x at hx;have hf:=zx6 h (Xf hx);have hnr:=zdG x.v;refine Ob.mk ⟨oM,g1⟩ λy(hy:l[i]?=some y)=>?_;rw[hx]at hy;cases hy
  refine wg (ztA x) ?_;have hml:((l.take i).map (vP t)).length<=256:=by simp;omega
  refine⟨Nat,λk=>⟨[(9,i64 k),(8,.loc 2 0),(7,i64 i),(6,.own 1),(3,.loc 0 0),(0,.sl sgE l)],[(2,.box 241 (ptE (part (λp=>(kr t p).1) k x).a++ptE (part (λp=>(kr t p).1) k x).b++ptE (part (λp=>(kr t p).1) k x).c)),(1,.arr 108 sgE 7 ((l.take i).map (vP t))),(0,.box 57 (afE t))],3,67,0⟩,
   λk=>k<=(nm x.v).toNat/\qT t ((kB x).take k)=0,λk=>3-k,0,⟨Xh _,rfl⟩,zf [0,1,2],?_⟩
  rintro k ⟨hk0,hke⟩
  refine Ob.mk ⟨oM,g1⟩ λy(hy:l[i]?=some y)=>?_;rw[hx]at hy;cases hy
  refine wg (zpI x.v)<|⟨λg2=>?_,λg2=>?_⟩
  ·have g2:(k:Int)<nm x.v:=g2;have hat:=zDe (s:=x) g2;have e:k=0∨k=1∨k=2:=oM
   rcases e with rfl|rfl|rfl
   ·refine wc<|wg (zcf t x.a ht)<|⟨λh5=>bad _ (zhZ h hi0 hx hke hat h5),λh5=>?_⟩;have h5:(kr t x.a).2=0:=XN h5;exact Ar.fit dC<|⟨1,⟨by show 1<=_;omega,(vq hke hat).1 h5⟩,zf [0,1,2],dC⟩
   ·refine wc<|wg (zcf t x.b ht)<|⟨λh5=>bad _ (zhZ h hi0 hx hke hat h5),λh5=>?_⟩;have h5:(kr t x.b).2=0:=XN h5;exact Ar.fit dC<|⟨2,⟨by show 2<=_;omega,(vq hke hat).1 h5⟩,zf [0,1,2],dC⟩
   refine wc<|wg (zcf t x.c ht)<|⟨λh5=>bad _ (zhZ h hi0 hx hke hat h5),λh5=>?_⟩;have h5:(kr t x.c).2=0:=XN h5;exact Ar.fit dC<|⟨3,⟨by show 3<=_;omega,(vq hke hat).1 h5⟩,zf [0,1,2],dC⟩
  have g2:¬(k:Int)<nm x.v:=g2;have hku:k=(nm x.v).toNat:=oM
  have hall:(kB x).take k=kB x:=by
   rw[Xi];unfold kB;simp;omega
  rw[hall]at hke;refine wc<|Ob.mk ⟨oM,g1⟩ λy(hy:l[i]?=some y)=>?_;rw[hx]at hy;cases hy
  refine⟨Sg,sgE,[part (λp=>(kr t p).1) k x],rfl,wb0 ?_⟩;refine⟨[part (λp=>(kr t p).1) k x],rfl,Ob.mk ⟨(by show _*(56:Int)<=_;simp only[Xn,Xr];omega),(by simp only[Xn,Xr];omega),dC,λ_ _=>rfl⟩ ?_⟩;exact wa<|⟨i+1,⟨by show i+1<=_;omega,zvV hi0 hx hke⟩,zu [0,4] ⟨aR (by rw[Xl,hx,hku];simp[zm2 t hf,zfa]),rfl,tV⟩,oN⟩
 have hil:i=l.length:=by omega
 rw[hil,X1]at hi0;have htr:trans t l=(l.map (vP t),0):=by rw[trans,Xc h1,hi0,Xc (λk=>k rfl)]
 rw[show(trans t l).1=(l.take i).map (vP t) by rw[htr,hil,X1],show(trans t l).2=0 by rw[htr]];exact zM .refl .refl
instance (t:AF) (n:Nat):Decidable (t.le n):=wi
def yZ(p:Nat×SV):Nat×SV:=
 match p.2 with
 |.loc k o=>(p.1,.loc k o)
 |_=>(p.1,.junk)
def zgW:∀(L:LP) (t:Nat) (s:SV),kK (L.map yZ) t=some s->s=.junk∨∃k o,s=.loc k o/\kK L t=some (.loc k o)
 |[],t,s,h=>by simp[kK]at h
 |(d,s0)::L,t,s,h=>by
  have e:(((d,s0)::L).map yZ)=(d,(yZ (d,s0)).2)::L.map yZ:=by
   simp only[QO];congr 1;unfold yZ;dsimp only;split <;> rfl
  rw[e,kq]at h
  split at h
  ·rename_i hd
   cases h
   unfold yZ;dsimp only
   split
   ·rename_i k o;exact .inr ⟨k,o,rfl,by rw[kq,Xe hd]⟩
   exact .inl rfl
  rename_i hd
  rcases zgW L t s h with h|⟨k,o,h1,h2⟩
  ·exact .inl h
  exact .inr ⟨k,o,h1,by rw[kq,Xc hd,h2]⟩
def zyZ:SV->Bool
 |.loc _ _=>true
 |_=>false
def zCE(K:St->Prop):LH
 |.exit _,_=>False
 |.normal,σ=>K σ
 |.ret,σ=>K σ
def zuh(n:Nat)(P:Program)(Γ:LS)(fn cfn:Func)(cc:Code)(caps:LR)(r:SV)(σ3:St):Prop:=
 Nat.beq σ3.M.length σ3.nk=true/\jI P Γ cc ⟨jJ 0 caps,σ3.M,σ3.M.length,cfn.ntmps,σ3.M.length⟩ (zCE λσ4=>zbS σ4 Γ cfn.results.toList λ_=>
  zbS ⟨σ3.L.map yZ,σ4.M,σ4.nk,σ3.nt,0⟩ Γ fn.results.toList λs=>LE (ziK (zU σ4.M) n s) r)
def zBl(n:Nat)(P:Program)(Γ:LS)(fn cfn:Func)(cc:Code)(caps:LR)(r:SV)(σ3:St):Prop:=∃σ',Sub σ3 σ'/\zuh n P Γ fn cfn cc caps r σ'
def zD9(n:Nat)(P:Program)(Γ:LS)(fn cfn:Func)(cf:FuncId)(t:Tmp)(rest cc:Code)(r:SV)(σ2:St):Prop:=
 ∃caps,kK σ2.L t=some (.fn cf caps)/\Nat.ble caps.length cfn.ntmps=true/\caps.all zyZ=true/\jI P Γ rest ⟨σ2.L,σ2.M,σ2.nk,σ2.nt,σ2.nk⟩ (zCE (zBl n P Γ fn cfn cc caps r))
def vcDf(n:Nat)(P:Program)(Γ:LS)(fn cfn:Func)(cf:FuncId)(cc:Code)(r:SV):Nat->Code->St->Prop
 |0,c,σ=>∃id o1 o2 rest t,c=.seq (.region id #[o1,o2] false) rest/\o2.op=.defer ⟨.value (.tmp t),#[],#[]⟩/\o2.guard=none/\o2.dst=none/\
   u4 P Γ false [o1,o2] [o1] 0 σ (zD9 n P Γ fn cfn cf t rest cc r)
 |k+1,c,σ=>∃x y,c=.seq x y/\jI P Γ x σ λe σ=>match e with
   |.normal=>vcDf n P Γ fn cfn cf cc r k y σ
   |.ret=>zbS σ Γ fn.results.toList λs=>LE (ziK (zU σ.M) n s) r
   |.exit _=>False
variable{r:SV}
def zy0{E:Env}{M:LT}{ρ:zh}{w:World}{n:Nat}{s:SV}{v:Value}(hm:zL E.Keep M ρ w)(hle:LE (ziK (zU M) n s) r)(hg:G (λb=>E.Keep b∨Own M ρ b) (Own M ρ) ρ w s v):G (λb=>E.Keep b∨Own [] ρ b) (Own [] ρ) ρ w r v:=by
 have hd:∀{s:SV} {v:Value},G (λb=>E.Keep b∨Own M ρ b) (Own M ρ) ρ w s v->D (λb=>E.Keep b∨Own [] ρ b) w (frz (zU M) n s) v:=λh=>
  (zmF (λk m h=>zA h) hm n h).less λb hb=>hb.resolve_right zP
 refine hle _ _ _ _ _ ?_;unfold ziK
 split
 ·rename_i cs;obtain⟨vs,rfl,hvs⟩:=hg.tup_inv;refine .tup _ vs (by rw[Xx];exact hvs.1) λj s v hs hv=>?_
  rw[XD]at hs
  cases hc:cs[j]? with
  |none=>simp[hc]at hs
  |some c=>
   simp[hc]at hs;subst hs;exact .d _ _ (hd (hvs.2 j c v hc hv))
 exact .d _ _ (hd hg)
def zqX{n:Nat}{P:Program}{Γ:LS}(hT:TOK P Γ)(hm:P.follows .mixedOrders=true){cf:FuncId}{fn cfn:Func}{cc:Code}{r:SV}(hcf:P.funcs[cf]?=some cfn)(hcb:cfn.body=some cc)(hcn:(cfn.name== "runtime.NumGoroutine")=false) {Keep:LI} {ρ:zh} {w:World} (hk:∀b,Keep b->b<w.heap.size) (hρ:∀k,0<=k->ρ k=none) {RF:Ending->World->Prop}
  (hRF:∀e w',RF e w'↔∃v ρ',e=.returned v/\Stp (Own [] ρ) (Own [] ρ') ρ ρ' w w'/\zL Keep [] ρ' w'/\G (λb=>Keep b∨Own [] ρ' b) (Own [] ρ') ρ' w' r v):
  ∀(k:Nat) (c:Code) {σ1:St} {ρ1:zh} {a1:Act} {w1:World},Rel ⟨w,ρ,Keep,Own [] ρ,[]⟩ σ1 ρ1 a1 w1->vcDf n P Γ fn cfn cf cc r k c σ1->c.wp P (bodyPostD P fn RF) a1 w1
 |k+1,c,σ1,ρ1,a1,w1,hr1,h=>by
  obtain⟨x,y,rfl,h⟩:=h;refine wp_seq (Code.wp_mono (λe a2 w2 hq=>?_) (k9 hT hm x hr1 h))
  cases e with
  |normal=>obtain⟨σ,ρ',h1,h2⟩:=hq;exact zqX hT hm hcf hcb hcn hk hρ hRF k y h2 h1
  |ret=>
   obtain⟨σ,ρ',h1,hr⟩:=hq;obtain⟨s,hles,h8⟩:=yk hT h1;obtain⟨v,hv,hgv⟩:=h8 hr;have hst:=hr.stp;show Leaves P fn a2.tmps RF a2.defers .returning w2;have hd0:a2.defers=[]:=hr.defers;rw[hd0];refine⟨v,hv,(hRF _ _).2 ⟨v,ρ',rfl,?_,(qt hr.mem.kp λ_ _ h=>hr.mem.glc h),zy0 hr.mem hles hgv⟩⟩;exact⟨hst.os,hst.tape,hst.output,hst.size,λb hb hn=>hst.block b hb λh=>hn h,λb hb=>absurd hb zP,hst.rho⟩
  |exit id=>obtain⟨σ,ρ',h1,_⟩:=hq;exact h1.elim
  |_=>exact hq.elim
 |0,c,σ1,ρ1,a1,w1,hr1,h=>by
  obtain⟨id,o1,o2,rest,t,rfl,ho,hg,hd,h1⟩:=h;refine wp_seq (wp_region_list ?_);obtain⟨σ',run,svs,s,md,h2,hgd,href,hdst,hrun⟩:=zgd hT hr1 h1
  have hr1':Rel ⟨w,ρ,Keep,Own [] ρ,[]⟩ σ' ρ1 a1 w1:=by
   rcases href with rfl|⟨t,s0,s1,q2,q3,rfl⟩
   ·exact hr1
   exact hr1.refine q2 q3
  have hnt:σ'.nt=σ1.nt:=by rcases href with rfl|⟨t,s0,s1,q2,q3,rfl⟩ <;> rfl
  have go2:∀{ρ2:zh} {a2:Act} {w2:World} {Q:LF},(∀a w,rest.wp P (bodyPostD P fn RF) a w->Q .normal a w)->Rel ⟨w,ρ,Keep,Own [] ρ,[]⟩ (σ'.app o1.dst s md) ρ2 a2 w2->
    wpList P #[o1,o2] Q [o2] a2 w2:=by
   intro ρ2 a2 w2 Q hQ hr2;obtain⟨caps,hlt,hcle,hall,h3⟩:=h2;have hgt:=(hr2.regs t _ hlt).2;obtain⟨cvs,hcv,hcg⟩:=hgt.fn_inv;have hw:Region.wanted o2 (yielded (#[o1,o2]:Array Oper) a2.tmps)=true:=hr2.wanted (all:=[o1,o2]) (by simp[qV,hg]);unfold wpList;rw[hw];simp only[if_true];refine .inl ?_;unfold Oper.wp
   have hex:(execOp a2.eval o2).run P w2=.ok (.defer ⟨.fn (.func cf) cvs.toArray,#[]⟩) w2:=by
    have hev:a2.eval (.tmp t)=.func (.func cf) #[] cvs.toArray:=hcv;simp only[execOp,ho,resolve,hev,Deferred.ofValue,Sem.run_bind,Sem.run_pure,Result.andThen_ok];simp
   rw[hex,Oper.upon_defer,hd];refine hQ _ _ ?_;show rest.wp P _ { a2 with defers:=_::a2.defers } w2;have hd0:a2.defers=[]:=hr2.defers;rw[hd0]
   -- the rest,with the call put off
   let E3:Env:=⟨w2,ρ2,Keep,Own (σ'.app o1.dst s md).M ρ2,[⟨.fn (.func cf) cvs.toArray,#[]⟩]⟩
   have hr3:Rel E3 ⟨(σ'.app o1.dst s md).L,(σ'.app o1.dst s md).M,(σ'.app o1.dst s md).nk,(σ'.app o1.dst s md).nt,(σ'.app o1.dst s md).nk⟩ ρ2 { a2 with defers:=[⟨.fn (.func cf) cvs.toArray,#[]⟩] } w2:=
    ⟨hr2.size,rfl,hr2.regs,hr2.mem,hr2.fresh,.refl,hr2.mem.kp,λk v hv=>by
     rcases Qe k (σ'.app o1.dst s md).nk with h|h
     ·exact h
     have hv:ρ2 k=some v:=hv
     rw[hr2.fresh k h]at hv;cases hv⟩
   refine Code.wp_mono (λe a3 w3 hq=>?_) (k9 hT hm rest hr3 h3)
   have fin:∀σ3 ρ3,zuh n P Γ fn cfn cc caps r σ3->Rel E3 σ3 ρ3 a3 w3->Leaves P fn a3.tmps RF a3.defers .returning w3:=by
    intro σ3 ρ3 ⟨hbeq,h4⟩ hr3;have hlen:=Xj hbeq;have hd3:a3.defers=[⟨.fn (.func cf) cvs.toArray,#[]⟩]:=hr3.defers;rw[hd3];have hρ3:∀k,σ3.M.length<=k->ρ3 k=none:=λk hk=>hr3.fresh k oM
    have hcg3:Gs (λb=>Keep b∨Own σ3.M ρ3 b) (Own σ3.M ρ3) ρ3 w3 caps cvs:=by
     refine⟨hcg.1,λj s v hs hv=>?_⟩;have hl:zyZ s=true:=XQ.1 hall s (Xf hs)
     cases s <;> try (simp[zyZ]at hl)
     rename_i k off;obtain⟨b,hb1,rfl⟩:=(hcg.2 j _ v hs hv).loc_inv;exact .loc _ _ _ (hr3.stp.rho _ _ hb1)
    have hent:=vK (nt:=cfn.ntmps) hr3.mem hρ3 hcg3 (Xz hcle);refine leaves_cons sI (f:=cf) (args:=cvs.toArray) ?_ ?_
    ·simp only[invoke,callFunc,Sem.run_bind,Sem.run_pure,Result.andThen_ok,run_program,hcf,hcn,hcb,Option.isNone_some,Ky,if_false];simp
    refine(callsD_of_wp (R:=λe w4=>∃v0,e=.returned v0/\Leaves P fn a3.tmps RF [] .returning w4) hcf hcb ?_).mono ?_
    ·refine Code.wp_mono (λe a4 w4 hq=>?_) (k9 hT hm cc hent h4)
     have fin2:∀σ4 ρ4,(zbS σ4 Γ cfn.results.toList λ_=>zbS ⟨σ3.L.map yZ,σ4.M,σ4.nk,σ3.nt,0⟩ Γ fn.results.toList λs=>LE (ziK (zU σ4.M) n s) r)->
       Rel ⟨w3,ρ3,Keep,Own σ3.M ρ3,[]⟩ σ4 ρ4 a4 w4->a4.defers=[]/\∃v,(results cfn a4.tmps).run P w4=.ok v w4/\∃v0,Ending.returned v=.returned v0/\
        Leaves P fn a3.tmps RF [] .returning w4:=by
      intro σ4 ρ4 h5 hr4;obtain⟨s0,h6,h7⟩:=yk hT h5;obtain⟨v0,hv0,_⟩:=h7 hr4;refine⟨hr4.defers,v0,hv0,v0,rfl,?_⟩;have hst:Stp (Own [] ρ) (Own σ4.M ρ4) ρ ρ4 w w4:=(hr2.stp.trans hr3.stp).trans hr4.stp
      have hfin:Rel ⟨w,ρ,Keep,Own [] ρ,a3.defers⟩ ⟨σ3.L.map yZ,σ4.M,σ4.nk,σ3.nt,0⟩ ρ4 a3 w4:=by
       refine⟨hr3.size,rfl,λt s hl=>?_,hr4.mem,hr4.fresh,hst,hk,λk v hv=>?_⟩
       ·rcases zgW σ3.L t s hl with rfl|⟨k,o,rfl,h8⟩
        ·refine⟨?_,.d _ _ (.junk _)⟩
         have:∃s,kK σ3.L t=some s:=by
          clear h5 h6 h7 h4 hr3 hr4 hent
          revert hl
          generalize σ3.L=L;intro hl
          induction L with
          |nil=>simp[kK]at hl
          |cons p L ih=>
           obtain⟨d,s0⟩:=p
           by_cases hd:d=t
           ·exact⟨s0,by rw[kq,Xe hd]⟩
           rw[kq,Xc hd];refine ih ?_
           have e:(((d,s0)::L).map yZ)=(d,(yZ (d,s0)).2)::L.map yZ:=by
            simp only[QO];congr 1;unfold yZ;dsimp only;split <;> rfl
           have hl':kK (((d,s0)::L).map yZ) t=some .junk:=hl;rw[e,kq,Xc hd]at hl';exact hl'
         obtain⟨s,hs⟩:=this;exact(hr3.regs t s hs).1
        obtain⟨h9,h10⟩:=hr3.regs t _ h8;refine⟨h9,?_⟩;obtain⟨b,hb1,hb2⟩:=h10.loc_inv;rw[hb2];exact .loc _ _ _ (hr4.stp.rho _ _ hb1)
       have hv:ρ k=some v:=hv;rw[hρ k (Xh _)]at hv;cases hv
      obtain⟨s,hles,h8⟩:=yk hT h6;obtain⟨v,hv,hgv⟩:=h8 hfin;refine⟨v,hv,(hRF _ _).2 ⟨v,ρ4,rfl,?_,(qt hfin.mem.kp λ_ _ h=>hfin.mem.glc h),?_⟩⟩
      ·exact⟨hst.os,hst.tape,hst.output,hst.size,λb hb hn=>hst.block b hb hn,λb hb=>absurd hb zP,hst.rho⟩
      exact zy0 hfin.mem hles hgv
     cases e with
     |normal=>obtain⟨σ4,ρ4,h5,hr4⟩:=hq;exact fin2 σ4 ρ4 h5 hr4
     |ret=>obtain⟨σ4,ρ4,h5,hr4⟩:=hq;exact fin2 σ4 ρ4 h5 hr4
     |exit id=>obtain⟨σ4,ρ4,h5,_⟩:=hq;exact h5.elim
     |_=>exact hq.elim
    rintro e u' w4 ⟨rfl,v0,rfl,hL⟩
    exact hL
   cases e with
   |normal=>obtain⟨σ3,ρ3,⟨σ',hs,h4⟩,hr3⟩:=hq;obtain⟨ρ',hr'⟩:=hs _ _ _ _ hr3;exact fin σ' ρ' h4 hr'
   |ret=>obtain⟨σ3,ρ3,⟨σ',hs,h4⟩,hr3⟩:=hq;obtain⟨ρ',hr'⟩:=hs _ _ _ _ hr3;exact fin σ' ρ' h4 hr'
   |exit id=>obtain⟨σ3,ρ3,h4,_⟩:=hq;exact h4.elim
   |_=>exact hq.elim
  unfold wpList;rw[hr1'.wanted hgd]
  obtain⟨rfl,hst⟩|⟨rfl,rfl,rfl⟩:=hrun
  ·simp only[if_true];refine .inl ((hst.does hr1').wp λv w' ha=>?_);obtain⟨ρ',hrel⟩:=hr1'.app (λt e=>hnt ▸ hdst t e) ha;exact go2 (λ_ _ h=>h) hrel
  simp only[Ky,if_false];obtain⟨ρ',hrel⟩:=hr1'.app (λt e=>hnt ▸ hdst t e) (uR hr1'.mem);exact go2 (λ_ _ h=>h) hrel
variable{Γ:LS}{fn:Func}{c:Code}
def zm3(n k:Nat)(hT:TOK P Γ)(hm:P.follows .mixedOrders=true){cf:FuncId}{cfn:Func}{args:LR}{cc:Code}(hf:P.funcs[f]?=some fn)(hb:fn.body=some c)(hn:(fn.name== "runtime.NumGoroutine")=false)
  (hle:Nat.ble args.length fn.ntmps=true) (hcf:P.funcs[cf]?=some cfn) (hcb:cfn.body=some cc) (hcn:(cfn.name== "runtime.NumGoroutine")=false)
  (h:vcDf n P Γ fn cfn cf cc r k c ⟨jJ 0 args,[],0,fn.ntmps,0⟩):qx P f args [] r []:=by
 refine⟨⟨fn,hf,hn,by rw[hb];rfl⟩,λKeep ρ w vs hk hmem hρ hgs=>?_⟩;have hRF:∃RF:Ending->World->Prop,∀e w',RF e w'↔∃v ρ',e=.returned v/\Stp (Own [] ρ) (Own [] ρ') ρ ρ' w w'/\zL Keep [] ρ' w'/\G (λb=>Keep b∨Own [] ρ' b) (Own [] ρ') ρ' w' r v:=⟨_,λ_ _=>K5⟩;obtain⟨RF,hRF⟩:=hRF;refine Calls.mono ?_ λe w' h=>(hRF e w').1 h
 refine calls_of_wp_defers hf hb ?_;have hrel:=vK (nt:=fn.ntmps) hmem hρ hgs (Xz hle);exact zqX hT hm hcf hcb hcn hk hρ hRF k c hrel h
def zy8(P:Program)(Γ:LS):Nat->Code->(St->Prop)->St->LH->Prop
 |0,_,J,σ,_=>J σ
 |n+1,.seq x y,J,σ,Q=>jI P Γ x σ λe σ=>(match e with
  |.normal=>zy8 P Γ n y J σ Q
  |.exit id=>Q (.exit id) σ
  |.ret=>Q .ret σ)
 |_+1,_,_,_,_=>False
def zy9:Nat->Code->Code
 |0,c=>c
 |n+1,.seq _ y=>zy9 n y
 |_+1,c=>c
def zda(P:Program)(c:Code)(σ:St)(Q:LH):Prop:=∀(E:Env) (ρ:zh) (a:Act) (w:World),Rel E σ ρ a w->c.wp P (uS E Q) a w
variable{σ:St}{Q:LH}
def zda.vc(hT:TOK P Γ)(hm:P.follows .mixedOrders=true)(h:jI P Γ c σ Q):zda P c σ Q:=
 λ_ _ _ _ hr=>k9 hT hm c hr h
def zm5{P:Program}{Γ:LS}(hT:TOK P Γ)(hm:P.follows .mixedOrders=true){J:St->Prop}{Q:LH}:∀(n:Nat) (c:Code) {σ:St},
  zy8 P Γ n c J σ Q->(∀σ,J σ->zda P (zy9 n c) σ Q)->zda P c σ Q
 |0,_,_,h,hJ=>hJ _ h
 |n+1,.seq x y,σ,h,hJ=>λE ρ a w hr=>by
  refine wp_seq (Code.wp_mono (λe a' w' hq=>?_) (k9 hT hm x hr h))
  cases e with
  |normal=>obtain⟨σ',ρ',h',hr'⟩:=hq;exact zm5 hT hm n y h' hJ E ρ' a' w' hr'
  |exit id=>exact hq
  |ret=>exact hq
  |_=>exact hq.elim
 |_+1,.skip,_,h,_=>h.elim
 |_+1,.region ..,_,h,_=>h.elim
 |_+1,.cond ..,_,h,_=>h.elim
 |_+1,.block ..,_,h,_=>h.elim
 |_+1,.loop ..,_,h,_=>h.elim
 |_+1,.rangeFunc ..,_,h,_=>h.elim
 |_+1,.exit ..,_,h,_=>h.elim
 |_+1,.scope ..,_,h,_=>h.elim
 |_+1,.label ..,_,h,_=>h.elim
 |_+1,.goto ..,_,h,_=>h.elim
 |_+1,.ret,_,h,_=>h.elim
 |_+1,.refuse ..,_,h,_=>h.elim
def zda.cut(hT:TOK P Γ)(hm:P.follows .mixedOrders=true)(n:Nat){ι:Type}(S:ι->St)(I:ι->Prop)(h:zy8 P Γ n c (λσ=>∃i,I i/\Sub σ (S i)) σ Q)(h2:∀i,I i->zda P (zy9 n c) (S i) Q):zda P c σ Q:=
 zm5 hT hm n c h λ_ ⟨i,hi,hs⟩ E ρ a w hr=>by
  obtain⟨ρ',hr'⟩:=hs E ρ a w hr;exact h2 i hi E ρ' a w hr'
def zcS(hT:TOK P Γ){args:LR}(hf:P.funcs[f]?=some fn)(hb:fn.body=some c)(hn:(fn.name== "runtime.NumGoroutine")=false) (hle:Nat.ble args.length fn.ntmps=true)
  (h:zda P c ⟨jJ 0 args,[],0,fn.ntmps,0⟩ (endV Γ fn.results.toList r)):qx P f args [] r []:=by
 refine⟨⟨fn,hf,hn,by rw[hb];rfl⟩,λKeep ρ w vs _ hmem hρ hg=>calls_of_wp hf hb ?_⟩;have hrel:=vK (nt:=fn.ntmps) hmem hρ hg (Xz hle);refine Code.wp_mono (λe a' w' hq=>?_) (h _ _ _ _ hrel)
 have fin:∀σ ρ1,zbS σ Γ fn.results.toList (λs=>LE (zlZ (zU σ.M) s) r)->Rel ⟨w,ρ,Keep,Own [] ρ,[]⟩ σ ρ1 a' w'->a'.defers=[]/\∃v,(results fn a'.tmps).run P w'=.ok v w'/\∃v' ρ',Ending.returned v=.returned v'/\Stp (Own [] ρ) (Own [] ρ') ρ ρ' w w'/\
   zL Keep [] ρ' w'/\G (λb=>Keep b∨Own [] ρ' b) (Own [] ρ') ρ' w' r v':=by
  intro σ ρ1 hq hr;obtain⟨s,hle,h1⟩:=yk hT hq;obtain⟨v,g1,hg⟩:=h1 hr;have hs:=hr.stp;refine⟨hr.defers,v,g1,v,ρ1,rfl,⟨hs.os,hs.tape,hs.output,hs.size,hs.block,λb hb=>absurd hb zP,hs.rho⟩,qt hr.mem.kp λ_ _ h=>hr.mem.glc h,?_⟩;exact hle _ _ _ _ _ (znR (λk m h=>zA h) hr.mem (λb hb=>.inl (hb.resolve_right zP)) hg (λb hb hk=>(hr.mem.old b hb).2 (hk.resolve_right zP)) (λ_=>zP))
 cases e with
 |normal=>obtain⟨σ,ρ1,hq,hr⟩:=hq;exact fin σ ρ1 hq hr
 |ret=>obtain⟨σ,ρ1,hq,hr⟩:=hq;exact fin σ ρ1 hq hr
 |exit id=>obtain⟨σ,ρ1,hq,hr⟩:=hq;exact hq.elim
 |_=>exact hq.elim
def AF.same(t u:AF):Prop:=t.a.v=u.a.v/\t.b.v=u.b.v/\t.c.v=u.c.v/\t.d.v=u.d.v/\t.e.v=u.e.v/\t.f.v=u.f.v
instance (t u:AF):Decidable (t.same u):=wi
def j7{x y:Rat}:zkt x y=0↔x=y:=by
 constructor
 ·intro h;exact Rat.le_antisymm (ztT.1 oM) (zoh.1 oM)
 rintro rfl
 unfold zkt;rw[Int.sub_self];rfl
def AF.le_len{t:AF}{n:Nat}(h:t.le n):t.nrm.le (max n 1):=by
 obtain⟨h1,h2,h3,h4,h5,h6⟩:=h;have l1:=zO t.a;have l2:=zO t.b;have l3:=zO t.c;have l4:=zO t.d;have l5:=zO t.e;have l6:=zO t.f;refine⟨?_,?_,?_,?_,?_,?_⟩ <;> (show(ofQ _).len<=_;rw[zF];omega)
def zzc(t u:AF):LI
 |0=>True
 |k+1=>zzc t u k/\(t.nth k).v=(u.nth k).v
def zuj(t u:AF)(ht:t.le 10000000)(hu:u.le 10000000):CX 391 [wo t,wo u] (pr (t.same u)):=by
 refine zc func391<|wc ?_;obtain⟨ha,hb,hc,hd,he,hf⟩:=ht;obtain⟨ka,kb,kc,kd,ke,kf⟩:=hu;refine wg (zez t ⟨oM,oM,oM,oM,oM,oM⟩)<|wg (zez u ⟨oM,oM,oM,oM,oM,oM⟩)<|⟨Nat,λi=>⟨[(14,i64 i),(13,wo t.nrm),(6,.loc 3 0)],[(3,.box 281 (afE u.nrm))],4,25,0⟩,λi=>i<=6/\zzc t u i,λi=>6-i,0,⟨Xh _,tV⟩,?_,?_⟩
 ·exact zB [(3,some 3)]
 rintro i ⟨hi,ok⟩
 have hi:i=0∨i=1∨i=2∨i=3∨i=4∨i=5∨i=6:=oM;have l1:=zO t.a;have l2:=zO t.b;have l3:=zO t.c;have l4:=zO t.d;have l5:=zO t.e;have l6:=zO t.f;have j1:=zO u.a;have j2:=zO u.b;have j3:=zO u.c;have j4:=zO u.d;have j5:=zO u.e;have j6:=zO u.f
 rcases hi with rfl|rfl|rfl|rfl|rfl|rfl|rfl
 ·refine we<|wc<|wg (ziu (ofQ t.a.v) (ofQ u.a.v) (by rw[zF];omega) (by rw[zF];omega)) ?_;rw[kv,kv];refine⟨λh=>zd (λh1=>h (j7.2 h1.1)),λh=>?_⟩;have h:=j7.1 (Xa.1 h);exact Ar.fit dC<|⟨1,⟨(by show 1<=6;decide),ok,h⟩,zB [(3,some 3)],dC⟩
 ·refine we<|wc<|wg (ziu (ofQ t.b.v) (ofQ u.b.v) (by rw[zF];omega) (by rw[zF];omega)) ?_;rw[kv,kv];refine⟨λh=>zd (λh1=>h (j7.2 h1.2.1)),λh=>?_⟩;have h:=j7.1 (Xa.1 h);exact Ar.fit dC<|⟨2,⟨(by show 2<=6;decide),ok,h⟩,zB [(3,some 3)],dC⟩
 ·refine we<|wc<|wg (ziu (ofQ t.c.v) (ofQ u.c.v) (by rw[zF];omega) (by rw[zF];omega)) ?_;rw[kv,kv];refine⟨λh=>zd (λh1=>h (j7.2 h1.2.2.1)),λh=>?_⟩;have h:=j7.1 (Xa.1 h);exact Ar.fit dC<|⟨3,⟨(by show 3<=6;decide),ok,h⟩,zB [(3,some 3)],dC⟩
 ·refine we<|wc<|wg (ziu (ofQ t.d.v) (ofQ u.d.v) (by rw[zF];omega) (by rw[zF];omega)) ?_;rw[kv,kv];refine⟨λh=>zd (λh1=>h (j7.2 h1.2.2.2.1)),λh=>?_⟩;have h:=j7.1 (Xa.1 h);exact Ar.fit dC<|⟨4,⟨(by show 4<=6;decide),ok,h⟩,zB [(3,some 3)],dC⟩
 ·refine we<|wc<|wg (ziu (ofQ t.e.v) (ofQ u.e.v) (by rw[zF];omega) (by rw[zF];omega)) ?_;rw[kv,kv];refine⟨λh=>zd (λh1=>h (j7.2 h1.2.2.2.2.1)),λh=>?_⟩;have h:=j7.1 (Xa.1 h);exact Ar.fit dC<|⟨5,⟨(by show 5<=6;decide),ok,h⟩,zB [(3,some 3)],dC⟩
 ·refine we<|wc<|wg (ziu (ofQ t.f.v) (ofQ u.f.v) (by rw[zF];omega) (by rw[zF];omega)) ?_;rw[kv,kv];refine⟨λh=>zd (λh1=>h (j7.2 h1.2.2.2.2.2)),λh=>?_⟩;have h:=j7.1 (Xa.1 h);exact Ar.fit dC<|⟨6,⟨(by show 6<=6;decide),ok,h⟩,zB [(3,some 3)],dC⟩
 refine⟨λh=>absurd h dC,λ_=>?_⟩;obtain⟨⟨⟨⟨⟨⟨_,o1⟩,o2⟩,o3⟩,o4⟩,o5⟩,o6⟩:=ok;exact zH ⟨o1,o2,o3,o4,o5,o6⟩
def zaX{q:Rat}(h:zb7 q<=256):yV q<=8:=by
 have key:∀n:Nat,kA n<=256->(zm n).length<=8:=λn hn=>jM (by
  have:=zdA n;have h2:2^kA n<=2^256:=XH dC hn;have h3:(4294967296:Nat)^8=2^256:=dC
  rw[h3];omega)
 unfold zb7 at h;unfold yV jm;have h1:=key q.num.natAbs oM;have h2:=key q.den oM;rw[QH];omega
def ok_le{t:AF}(h:t.nrm.ok):t.nrm.le 8:=by
 obtain⟨⟨⟨⟨⟨⟨_,o1⟩,o2⟩,o3⟩,o4⟩,o5⟩,o6⟩:=h;simp only[AF.nth,AF.nrm,kv]at o1 o2 o3 o4 o5 o6
 exact⟨by show(ofQ _).len<=_;rw[zF];exact zaX o1,by show(ofQ _).len<=_;rw[zF];exact zaX o2,by show(ofQ _).len<=_;rw[zF];exact zaX o3,
  by show(ofQ _).len<=_;rw[zF];exact zaX o4,by show(ofQ _).len<=_;rw[zF];exact zaX o5,by show(ofQ _).len<=_;rw[zF];exact zaX o6⟩
def zbr(t:AF):Rat:=t.a.v*t.d.v-t.b.v*t.c.v
def zk3(t:AF)(ht:t.le 10000000):CX 261 [wo t] (wm (ofQ (zbr t))):=by
 obtain⟨ha,hb,hc,hd,he,hf⟩:=ht;have l1:=zO t.a;have l2:=zO t.b;have l3:=zO t.c;have l4:=zO t.d;have m1:=yH t.a.v t.d.v;have m2:=yH t.b.v t.c.v;refine zc func261<|wc<|wg (ztR t.a t.d oM oM)<|wg (ztR t.b t.c oM oM)<|wg (q_sub (ofQ (t.a.v*t.d.v)) (ofQ (t.b.v*t.c.v)) (by rw[zF];omega) (by rw[zF];omega)) ?_;rw[kv,kv];exact .refl
def zq3(t:AF)(ht:t.le 100000000):CX 242 [wo t] (wo t.nrm):=by
 obtain⟨ha,hb,hc,hd,he,hf⟩:=ht;exact zc func242<|wg (zez t ⟨oM,oM,oM,oM,oM,oM⟩)<|wg (zsh t.nrm)<|.refl
def beh(t u:AF):AF:=afQ (u.a.v*t.a.v+u.c.v*t.b.v) (u.b.v*t.a.v+u.d.v*t.b.v) (u.a.v*t.c.v+u.c.v*t.d.v) (u.b.v*t.c.v+u.d.v*t.d.v) (vD u t.e.v t.f.v) (vE u t.e.v t.f.v)
def zzd(t u:AF)(ht:t.le 1000000)(hu:u.le 1000000):CX 241 [wo t,wo u] (wo (beh t u)):=by
 have ht':=ht;have hu':=hu;obtain⟨ha,hb,hc,hd,he,hf⟩:=ht;obtain⟨ka,kb,kc,kd,ke,kf⟩:=hu;refine zc func241<|wg (ztW u t.e t.f ⟨oM,oM,oM,oM,oM,oM⟩ oM oM)<|wc<|wg (zhH u.a t.a u.c t.b oM oM oM oM)<|wg (zhH u.b t.a u.d t.b oM oM oM oM)<|wg (zhH u.a t.c u.c t.d oM oM oM oM) ?_;exact wg (zhH u.b t.c u.d t.d oM oM oM oM)<|wg (zsh (beh t u))<|.refl
def zze{t u:AF}{n:Nat}(ht:t.le n)(hu:u.le n):(beh t u).le (5*n+7):=by
 obtain⟨ha,hb,hc,hd,he,hf⟩:=ht;obtain⟨ka,kb,kc,kd,ke,kf⟩:=hu;have m1:=qQ u.a t.a u.c t.b u.e ka ha kc hb ke;have m2:=qQ u.b t.a u.d t.b u.e kb ha kd hb ke;have m3:=qQ u.a t.c u.c t.d u.e ka hc kc hd ke;have m4:=qQ u.b t.c u.d t.d u.e kb hc kd hd ke;have m5:=qQ u.a t.e u.c t.f u.e ka he kc hf ke;have m6:=qQ u.b t.e u.d t.f u.f kb he kd hf kf;refine⟨?_,?_,?_,?_,?_,?_⟩ <;> (show(ofQ _).len<=_;rw[zF])
 ·omega
 ·omega
 ·omega
 ·omega
 ·exact m5.2
 exact m6.2
def bi_eq{a b:BI}(h1:a.neg=true↔b.neg=true)(hl:a.mag.length=b.mag.length)(hi:¬i<a.mag.length)(h:∀j,j<i->a.mag[j]?=b.mag[j]?):a=b:=by
 obtain⟨n,m⟩:=a;obtain⟨n',m'⟩:=b;have e1:n=n':=Qv.2 h1
 have e2:m=m':=Kq λj=>by
  by_cases hj:j<i
  ·exact h j hj
  dsimp only at hl hi;rw[XF oM,XF oM]
 subst e1 e2;rfl
def zk4(a b:BI)(ha:a.mag.length<=100000000):CX 498 [wl a,wl b] (pr (a=b)):=by
 refine zc func498<|Br.mk (λh1=>zd λe=>h1 (by rw[e])) (λh1=>?_);have h1:=Xa.1 h1;intro hl1 hl2;refine⟨λh2=>zd λe=>h2 (by rw[e]),λh2=>?_⟩;have h2:=Xa.1 h2;refine⟨Nat,λi=>⟨[(5,i64 i),(3,.loc 1 0),(2,.loc 0 0)],[(1,.box 53 (biE b)),(0,.box 53 (biE a))],2,38,0⟩,λi=>i<=a.mag.length/\∀j,j<i->a.mag[j]?=b.mag[j]?,λi=>a.mag.length-i,0,⟨Xh _,λj h=>by omega⟩,zf [0,1],?_⟩
 rintro i ⟨hi,hs⟩
 intro hl3;refine⟨λh3=>?_,λh3=>zH (bi_eq h1 oM oM hs)⟩;refine wc<|wb λx(hx:a.mag[i]?=some x)=>?_;refine wb λy(hy:b.mag[i]?=some y)=>?_;refine⟨λh4=>zd λe=>?_,λh4=>?_⟩
 ·subst e;rw[hx]at hy;cases hy;exact h4 rfl
 have h4:=Xa.1 h4;have exy:x=y:=Fin.ext oM;refine wa<|⟨i+1,⟨oM,λj hj=>?_⟩,zf [0,1],oN⟩
 by_cases e:j=i
 ·subst e;rw[hx,hy,exy]
 exact hs j oM
def zBt(a b:BR)(ha:a.len<=100000000):CX 496 [wm a,wm b] (pr (a=b)):=by
 have h1:a.num.mag.length<=a.len:=Q6 _ _;have h2:a.den.mag.length<=a.len:=QX _ _;refine zc func496<|wg (zk4 a.num b.num oM)<|⟨λe1=>?_,λe1=>zd λe=>e1 (by rw[e])⟩;refine wg (zk4 a.den b.den oM)<|zE ⟨λe2=>?_,λe=>by rw[e]⟩
 cases a;cases b;simp_all
def zsI(xs ys:List BR)(hx:∀x∈xs,x.len<=100000000):CX 493 [.sl brE xs,.sl brE ys] (pr (xs=ys)):=by
 refine zc func493 λhl1 hl2=>?_;refine⟨λh1=>zd λe=>h1 (by rw[e]),λh1=>?_⟩;have h1:=Xa.1 h1;refine⟨Nat,λi=>⟨[(5,i64 i),(0,.sl brE xs),(1,.sl brE ys)],[],0,27,0⟩,λi=>i<=xs.length/\∀j,j<i->xs[j]?=ys[j]?,λi=>xs.length-i,0,⟨Xh _,λj h=>by omega⟩,zB [],?_⟩
 rintro i ⟨hi,hs⟩
 intro hl3;refine⟨λh3=>?_,λh3=>?_⟩
 ·refine wc<|wb λx(hx1:xs[i]?=some x)=>?_;refine wb λy(hy:ys[i]?=some y)=>?_;refine wg (zBt x y (hx x (Xf hx1)))<|⟨λh4=>zd λe=>?_,λh4=>?_⟩
  ·subst e;rw[hx1]at hy;cases hy;exact h4 rfl
  have exy:=Xa.1 h4;refine wa<|⟨i+1,⟨oM,λj hj=>?_⟩,zB [],oN⟩
  by_cases e:j=i
  ·subst e;rw[hx1,hy,exy]
  exact hs j oM
 refine zH (Kq λj=>?_)
 by_cases hj:j<i
 ·exact hs j hj
 rw[XF oM,XF oM]
def zeK{x y:Rat}(h:ofQ x=ofQ y):x=y:=by rw[←kv x,←kv y,h]
def zv3{t:AF}{n:Nat}(h:t.le n):∀x∈zaG t,x.len<=n:=λx hx=>by
 obtain⟨h1,h2,h3,h4,h5,h6⟩:=h;simp only[zaG,XY,XR,or_false]at hx
 rcases hx with rfl|rfl|rfl|rfl|rfl|rfl <;> assumption
def zsJ(t u:AF)(ht:t.le 100000000):CX 481 [wo t,wo u] (pr (zaG t=zaG u)):=by
 exact zc func481<|wc<|wg (zhY t)<|wg (zhY u)<|wg (zsI (zaG t) (zaG u) (zv3 ht))<|zE K5
def zfe(t:AF)(ht:t.le 100000000):CX 482 [wo t] (wo t.nrm):=by
 obtain⟨ha,hb,hc,hd,he,hf⟩:=ht;refine zc func482<|wc<|wg (kG t.a oM)<|wg (kG t.b oM)<|wg (kG t.c oM)<|wg (kG t.d oM) ?_;exact wg (kG t.e oM)<|wg (kG t.f oM)<|.refl
def zzf{t u:AF}:zaG t.nrm=zaG u.nrm↔t.same u:=by
 constructor
 ·intro h;simp only[zaG,AF.nrm,List.cons.injEq,and_true]at h;exact⟨zeK h.1,zeK h.2.1,zeK h.2.2.1,zeK h.2.2.2.1,zeK h.2.2.2.2.1,zeK h.2.2.2.2.2⟩
 rintro⟨h1,h2,h3,h4,h5,h6⟩
 simp only[zaG,AF.nrm,h1,h2,h3,h4,h5,h6]
def zv4(t u:AF)(ht:t.le 10000000)(hu:u.le 10000000):CX 449 [wo t,wo u] (pr (t.same u)):=by
 have hn:=AF.le_len ht;obtain⟨ha,hb,hc,hd,he,hf⟩:=ht;obtain⟨ka,kb,kc,kd,ke,kf⟩:=hu;obtain⟨na,nb,nc,nd,ne,nf⟩:=hn;exact zc func449<|wc<|wg (zfe t ⟨oM,oM,oM,oM,oM,oM⟩)<|wg (zfe u ⟨oM,oM,oM,oM,oM,oM⟩)<|wg (zsJ t.nrm u.nrm ⟨oM,oM,oM,oM,oM,oM⟩)<|zE zzf
def zuk(t:AF)(ht:t.le 10000000):CX 134 [wo t] (wm (ofQ (zbr t))):=by
 obtain⟨ha,hb,hc,hd,he,hf⟩:=ht;have l1:=zO t.a;have l2:=zO t.b;have l3:=zO t.c;have l4:=zO t.d;have m1:=yH t.a.v t.d.v;have m2:=yH t.b.v t.c.v;refine zc func134<|wc<|wg (zog t.a t.d oM oM)<|wg (zog t.b t.c oM oM)<|wg (zDI (ofQ (t.a.v*t.d.v)) (ofQ (t.b.v*t.c.v)) (by rw[zF];omega) (by rw[zF];omega)) ?_;rw[kv,kv];exact .refl
def zq4(t u:AF)(ht:t.le 1000000)(hu:u.le 1000000):CX 218 [wo t,wo u] (wo (beh t u)):=by
 obtain⟨ha,hb,hc,hd,he,hf⟩:=ht;obtain⟨ka,kb,kc,kd,ke,kf⟩:=hu;have m5:=qQ u.a t.e u.c t.f u.e ka he kc hf ke;have m6:=qQ u.b t.e u.d t.f u.f kb he kd hf kf;refine zc func218<|wc<|wg (zbF u.a t.a u.c t.b oM oM oM oM)<|wg (zbF u.b t.a u.d t.b oM oM oM oM)<|wg (zbF u.a t.c u.c t.d oM oM oM oM)<|wg (zbF u.b t.c u.d t.d oM oM oM oM) ?_;refine wg (zbF u.a t.e u.c t.f oM oM oM oM)<|wg (zdQ (ofQ (u.a.v*t.e.v+u.c.v*t.f.v)) u.e (by rw[zF];omega) oM) ?_
 refine wg (zbF u.b t.e u.d t.f oM oM oM oM)<|wg (zdQ (ofQ (u.b.v*t.e.v+u.d.v*t.f.v)) u.f (by rw[zF];omega) oM) ?_;rw[kv,kv];exact .refl
end Go.Gs
