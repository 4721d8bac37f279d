/- Dashes: a part cut out, in the first text. -/
import Derived.Test.YtakicgnbhdpknaaGreatDoorPBD
import Derived.Defers
set_option maxRecDepth 100000
set_option maxHeartbeats 8000000
set_option linter.all false
namespace Go.Gs
open Proofs.Tryz
open Go.Proofs
def zA7(q:LU)(x:Pt)(d:0<q.length/\q.length<=100000):CG0 319 [wk x,.loc 0 0] [(0,.box 148 [.own 1]),(1,.arr 28 ptE 2 q)] (.tup []) [(0,.box 148 [.own 2]),(2,.arr 28 ptE 2 (y4 q x))]:=by
 refine uf tok mix func319 rfl rfl rfl<|wd λb=>wa<|wb<|wb λz a=>?_
 have a:q[q.length-1]?=some z:=by
  have a:q[((q.length:Int)-1).toNat]?=some z:=a
  rwa [show((q.length:Int)-1).toNat=q.length-1 by omega]at a
 refine wh<|⟨λk=>?_,λk=>?_⟩
 .have k:¬z=x:=λh=>k (qm.2 h)
  refine⟨Pt,ptE,[x],rfl,wb0 ?_⟩;refine⟨[x],rfl,wb4 ?_⟩;refine⟨⟨[],[(0,.box 148 [.own 2]),(2,.arr 28 ptE 2 (y4 q x))],3,15,2⟩,zt [0,1,4] ⟨rfl,aR (zj1 a k).symm,tV⟩,rfl,.refl⟩
 have k:z=x:=qm.1 (Xa.1 k);refine⟨⟨[],[(0,.box 148 [.own 2]),(2,.arr 28 ptE 2 (y4 q x))],3,15,2⟩,zt [0,1,1] ⟨rfl,aR (zpz a k).symm,tV⟩,rfl,.refl⟩
def zn1(q more:LU)(x:Pt):ky q (more++[x])=y4 (ky q more) x:=by unfold ky;rw[KT];rfl
def zfh(c:LU)(f t:Int)(n:Nat):zfH c f t (n+1)=zfH c f t n++if f<atS c n/\atS c n<t then[nth c n] else[]:=by
 unfold zfH;rw[KC,Kk,XA];congr 1
 by_cases h:f<atS c n/\atS c n<t
 .rw[Xe h,List.filter_cons_of_pos (by simpa using h)];rfl
 rw[Xc h,List.filter_cons_of_neg (by simpa using h)];rfl
def zcd(c:LU)(f t:Int)(n:Nat):LU:=ky [] ([zdJ c f]++zfH c f t n)
variable{c:LU}{f:Int}
def zsd{t:Int}{n:Nat}(h:f<atS c n/\atS c n<t):zcd c f t (n+1)=y4 (zcd c f t n) (nth c n):=by
 unfold zcd;rw[zfh,Xe h,←XM,zn1]
def zvM{t:Int}{n:Nat}(h:¬(f<atS c n/\atS c n<t)):zcd c f t (n+1)=zcd c f t n:=by
 unfold zcd;rw[zfh,Xc h,XC]
def zse(c:LU)(f t:Int):vp c f t=y4 (zcd c f t (c.length-1)) (zdJ c t):=by
 unfold vp zcd;rw[zn1]
def zsf(c:LU)(f t:Int)(n:Nat):0<(zcd c f t n).length/\(zcd c f t n).length<=n+1:=by
 induction n with
 |zero=>exact⟨X5 0,Xj 1⟩
 |succ n a=>
  by_cases h:f<atS c n/\atS c n<t
  .rw[zsd h];have b:=zhj (zcd c f t n) (nth c n);refine⟨?_,oM⟩;unfold y4
   split
   .exact a.1
   simp
  rw[zvM h];omega
def zpO(c:LU)(f t:Int):0<(vp c f t).length/\(vp c f t).length<=c.length+2:=by
 rw[zse];have h:=zsf c f t (c.length-1);have a:=zhj (zcd c f t (c.length-1)) (zdJ c t);refine⟨?_,oM⟩;unfold y4
 split
 .exact h.1
 simp
def zFa(q:Pl)(f t:Int)(k:q.pts.length<=4096)(j:2<=(zZ q).length)(m:0<=f/\f<=70368744177664)(ht:0<=t/\t<=70368744177664):CX 253 [.agg (meE (meQ q)),i64 f,i64 t] (.sl ptE (vp (zZ q) f t)):=by
 refine zc func253 ?_;have ll:=jK q;have tl:(meQ q).ts.length=(zZ q).length-1:=zj4 ..;refine wg (zvL q f k j m)<|⟨Pt,ptE,[zdJ (zZ q) f],rfl,wb0 ?_⟩;intro n;refine⟨Nat,λi=>⟨[(1,i64 f),(2,i64 t),(3,.loc 0 0),(7,.loc 1 0),(8,.fn 319 [.loc 1 0]),(17,.sl zM (meQ q).ts),(18,i64 ((meQ q).ts.length:Int)),(19,i64 i)],[(0,.box 271 (meE (meQ q))),(1,.box 148 [.own 2]),(2,.arr 28 ptE 2 (zcd (zZ q) f t i))],3,46,0⟩,λi=>i<=(zZ q).length-1,λi=>(zZ q).length-i,0,?_,?_,?_⟩
 .exact Xh _
 .exact zf [0,2,1]
 rintro i hi
 have cl:=zsf (zZ q) f t i;refine⟨λg:(i:Int)<((meQ q).ts.length:Int)=>?_,λg:¬(i:Int)<((meQ q).ts.length:Int)=>?_⟩
 .have stay:¬(f<atS (zZ q) i/\atS (zZ q) i<t)->zcd (zZ q) f t i=zcd (zZ q) f t (i+1):=λh=>(zvM h).symm
  refine wb λy d=>?_;have d:=ziJ (show(tsL (zZ q) ((zZ q).length-1))[i]?=some y from d);refine⟨λa=>Br.mk (λb=>?_) (λb=>?_),λa=>?_⟩;rotate_left
  .have b:¬y<t:=b;exact wa<|⟨i+1,oM,zt [0,1,2] ⟨rfl,rfl,aR (stay λh=>b (by rw[d];exact h.2)),tV⟩,oN⟩
  .have a:¬f<y:=a;exact wa<|⟨i+1,oM,zt [0,1,2] ⟨rfl,rfl,aR (stay λh=>a (by rw[d];exact h.1)),tV⟩,oN⟩
  have a:f<y:=a;have b:y<t:=b;rw[d]at a b;refine Ob.mk (show 0<=(i:Int)/\(i:Int)<(q.pts.length:Int) by omega) λx e=>?_;have e:=qu (show q.pts[i]?=some x from e);rw[←zbH (q:=q) (i:=i) oM]at e
  refine zb.give [1,2] 1 [wk x,.loc 0 0] [(0,.box 148 [.own 1]),(1,.arr 28 ptE 2 (zcd (zZ q) f t i))] [(0,.box 148 [.own 2]),(2,.arr 28 ptE 2 (y4 (zcd (zZ q) f t i) x))] (.tup []) (zA7 (zcd (zZ q) f t i) x ⟨cl.1,oM⟩)
   LEs.refl rfl rfl rfl ⟨⟨_,rfl,rfl,rfl⟩,⟨_,rfl,rfl,tV⟩,tV⟩ rfl ⟨⟨rfl,rfl⟩,⟨rfl,tV⟩,tV⟩ ?_
  exact wa<|⟨i+1,oM,zt [0,1,3] ⟨rfl,rfl,aR (by rw[zsd ⟨a,b⟩,e]),tV⟩,oN⟩
 have ei:i=(zZ q).length-1:=oM;refine wg (zvL q t k j ht) ?_
 refine zb.give [1,2] 1 [wk (zdJ (zZ q) t),.loc 0 0] [(0,.box 148 [.own 1]),(1,.arr 28 ptE 2 (zcd (zZ q) f t i))] [(0,.box 148 [.own 2]),(2,.arr 28 ptE 2 (y4 (zcd (zZ q) f t i) (zdJ (zZ q) t)))] (.tup []) (zA7 (zcd (zZ q) f t i) (zdJ (zZ q) t) ⟨cl.1,oM⟩)
  LEs.refl rfl rfl rfl ⟨⟨_,rfl,rfl,rfl⟩,⟨_,rfl,rfl,tV⟩,tV⟩ rfl ⟨⟨rfl,rfl⟩,⟨rfl,tV⟩,tV⟩ ?_
 refine z6 ?_;rw[zse,ei]
def zcE(t:AF)(p:Pt)(ht:t.le 100000):CX 221 [wo t,wk p] (.tup [wk (ku t p).1,i64 (ku t p).2]):=by
 obtain⟨z,A,B,C,D,E⟩:=ht;refine zc func221 ?_;have fin:∀(q:Pt) (n:Int),(ku t p)=(q,n)->LE (.tup [wk q,i64 n]) (.tup [wk (ku t p).1,i64 (ku t p).2]):=λq n h=>by rw[h];exact .refl
 refine wg (zct t ⟨oM,oM,oM,oM,oM,oM⟩)<|⟨λg=>?_,λg=>?_⟩
 .exact fin zp 5 (by rw[ku,Xe g])
 refine wg (ki p)<|⟨λj=>?_,λj=>?_⟩
 .exact fin zp 6 (by rw[ku,Xc g,Xe j])
 have u:zm p:=XR j;have v:R64 p.x:=by unfold R64;unfold zm at u;omega
 have w:R64 p.y:=by unfold R64;unfold zm at u;omega
 have lx:=zeb p.x;have ly:=zeb p.y;have zx:=jq v;have zy:=jq w;refine wc<|wg (yE p.x v)<|wg (yE p.y w)<|wg (zw7 t (ofQ (p.x:Rat)) (ofQ (p.y:Rat)) ⟨oM,oM,oM,oM,oM,oM⟩ (by rw[zF];omega) (by rw[zF];omega)) ?_;rw[kw,kw];have lX:=qU t.a (ofQ (p.x:Rat)) t.c (ofQ (p.y:Rat)) t.e (n:=100000) z (by rw[zF];omega) B (by rw[zF];omega) D;have lY:=qU t.b (ofQ (p.x:Rat)) t.d (ofQ (p.y:Rat)) t.f (n:=100000) A (by rw[zF];omega) C (by rw[zF];omega) E;rw[kw,kw]at lX lY
 have lh:yW (Rat.divInt 1 2)<=1:=by decide +kernel
 have mX:=zbz (vU t p.x p.y) (Rat.divInt 1 2);have mY:=zbz (vV t p.x p.y) (Rat.divInt 1 2);have lX2:yW (vU t p.x p.y)<=500007:=lX.2;have lY2:yW (vV t p.x p.y)<=500007:=lY.2
 have fl:∀q:Rat,jr q.floor<=yW q:=λq=>XB (zco (by
  rw[Yi]
  exact Q7 _ _)) (qB q)
 have fX:=fl (vU t p.x p.y+Rat.divInt 1 2);have fY:=fl (vV t p.x p.y+Rat.divInt 1 2);refine wg (zrh 1 2 dC dC dC)<|wg (zec (ofQ (vU t p.x p.y)) (ofQ (Rat.divInt 1 2)) (by rw[zF];omega) (by rw[zF];omega)) ?_;rw[kw,kw];refine wg (zri (ofQ (vU t p.x p.y+Rat.divInt 1 2)) (by rw[zF];omega)) ?_;rw[kw];refine wg (zk0 (ofZ (vU t p.x p.y+Rat.divInt 1 2).floor) (by rw[zV];omega))<|wg (zec (ofQ (vV t p.x p.y)) (ofQ (Rat.divInt 1 2)) (by rw[zF];omega) (by rw[zF];omega)) ?_;rw[kw,kw]
 refine wg (zri (ofQ (vV t p.x p.y+Rat.divInt 1 2)) (by rw[zF];omega)) ?_;rw[kw];refine wg (zk0 (ofZ (vV t p.x p.y+Rat.divInt 1 2).floor) (by rw[zV];omega)) ?_;rw[z5,z5];obtain⟨X,hX⟩:∃X,(vU t p.x p.y+Rat.divInt 1 2).floor=X:=⟨_,rfl⟩;obtain⟨Va,hY⟩:∃Va,(vV t p.x p.y+Rat.divInt 1 2).floor=Va:=⟨_,rfl⟩;have s:goP t p=⟨X,Va⟩:=by unfold goP;rw[hX,hY]
 rw[hX,hY];have out:¬zm ⟨X,Va⟩->ku t p=(zp,6):=λh=>by rw[ku,Xc g,Xc j,Xc (by rw[s];exact h)]
 have inn:zm ⟨X,Va⟩->ku t p=(⟨X,Va⟩,0):=λh=>by rw[ku,Xc g,Xc j,Xe (by rw[s];exact h),s]
 have big:zm ⟨X,Va⟩->(-9223372036854775808<=X/\X<=9223372036854775807)/\(-9223372036854775808<=Va/\Va<=9223372036854775807):=λh=>by unfold zm at h;dsimp only at h;omega
 refine⟨λk=>?_,λk=>?_⟩
 .exact fin zp 6 (out λh=>k (big h).1)
 have k:=XR k;refine⟨λm=>?_,λm=>?_⟩
 .exact fin zp 6 (out λh=>m (big h).2)
 have m:=XR m;refine wg (ki ⟨y7 X,y7 Va⟩) ?_;rw[y7,Xe k,y7,Xe m];refine⟨λo=>?_,λo=>?_⟩
 .exact fin zp 6 (out o)
 exact fin ⟨X,Va⟩ 0 (inn (XR o))
def zn5(t:AF){s:Sg}(e:zdI s):zaf t s=zfI (λp=>(ku t p).1) s:=by
 unfold zaf;obtain⟨d,b,a⟩:=e;have g:=zeh s.v;have k:nm s.v<=0∨nm s.v=1∨nm s.v=2∨nm s.v=3:=oM;unfold kD zfI zlj part
 rcases k with k|k|k|k
 .rw[show(nm s.v).toNat=0 by omega,d.2 oM,b.2 oM,a.2 oM];rfl
 .rw[show(nm s.v).toNat=1 by omega,b.2 oM,a.2 oM];rfl
 .rw[show(nm s.v).toNat=2 by omega,a.2 oM];rfl
 rw[show(nm s.v).toNat=3 by omega];rfl
variable{l:LX}{i:Nat}{x:Sg}
def ziO{t:AF}(g:valid l){p:Pt}{k:Nat}(e:qX t (qh (l.take i))=0)(n:l[i]?=some x)(j:qX t ((kD x).take k)=0)(m:(kD x)[k]?=some p)(a:(ku t p).2≠0):trans t l=([],(ku t p).2):=by
 have b:=(vE j m).2 a
 have d:qX t (qh l)=(ku t p).2:=by
  have h:=zg3 n
  have:qh l=qh (l.take i)++(kD x++qh (l.drop (i+1))):=by
   conv=>lhs;rw[←Kr i l,h]
   simp[qh]
  rw[this,jI,e];simp only[ne_eq,not_true_eq_false,if_false];rw[jI,b,Xe a]
 rw[trans,Xc (λk=>k g),d,Xe a]
def zxW{t:AF}(a:qX t (qh (l.take i))=0)(d:l[i]?=some x)(b:qX t (kD x)=0):qX t (qh (l.take (i+1)))=0:=by
 rw[zjl d,jI,a];simpa using b
def zBi(l:LX)(t:AF)(ht:t.le 100000):CX 153 [.sl sgE l,wo t] (.tup [.sl sgE (trans t l).1,i64 (trans t l).2]):=by
 refine zc func153 ?_
 have bad:∀e:Int,trans t l=([],e)->LE (.tup [nS,i64 e]) (.tup [.sl sgE (trans t l).1,i64 (trans t l).2]):=λe h=>by
  rw[h];exact zO zD .refl
 refine wg (zg4 l)<|⟨λA=>?_,λA=>?_⟩
 .exact bad 10 (by rw[trans,Xe A])
 have h:=Xa.1 A;have G:=zin h;refine⟨Sg,sgE,[],rfl,wb2 ?_⟩
 refine⟨Nat,λi=>⟨[(7,i64 i),(6,.own 1),(3,.loc 0 0),(0,.sl sgE l)],[(1,.arr 108 sgE 7 ((l.take i).map (zaf t))),(0,.box 57 (afE t))],2,67,0⟩,λi=>i<=l.length/\qX t (qh (l.take i))=0,λi=>l.length-i,0,⟨Xh _,rfl⟩,
  zf [0,1],?_⟩
 rintro i ⟨hil0,m⟩
 intro _;refine⟨λz:(i:Int)<l.length=>?_,λz=>?_⟩
 .have n:=Xb (show i<l.length by omega);generalize l[i]'oM=x at n;have C:=zAs h (Xf n);have F:=zeh x.v;refine Ob.mk ⟨oM,z⟩ λy(o:l[i]?=some y)=>?_;rw[n]at o;cases o
  refine wg (zvk x) ?_;have E:((l.take i).map (zaf t)).length<=256:=by simp;omega
  refine⟨Nat,λk=>⟨[(9,i64 k),(8,.loc 2 0),(7,i64 i),(6,.own 1),(3,.loc 0 0),(0,.sl sgE l)],[(2,.box 241 (ptE (part (λp=>(ku t p).1) k x).a++ptE (part (λp=>(ku t p).1) k x).b++ptE (part (λp=>(ku t p).1) k x).c)),(1,.arr 108 sgE 7 ((l.take i).map (zaf t))),(0,.box 57 (afE t))],3,67,0⟩,
   λk=>k<=(nm x.v).toNat/\qX t ((kD x).take k)=0,λk=>3-k,0,⟨Xh _,rfl⟩,zf [0,1,2],?_⟩
  rintro k ⟨D,g⟩
  refine Ob.mk ⟨oM,z⟩ λy(o:l[i]?=some y)=>?_;rw[n]at o;cases o
  refine wg (zrm x.v)<|⟨λq=>?_,λq=>?_⟩
  .have q:(k:Int)<nm x.v:=q;have j:=zF9 (s:=x) q;have e:k=0∨k=1∨k=2:=oM
   rcases e with rfl|rfl|rfl
   .refine wc<|wg (zcE t x.a ht)<|⟨λd=>bad _ (ziO h m n g j d),λd=>?_⟩;have d:(ku t x.a).2=0:=XR d;exact Ar.fit dC<|⟨1,⟨by show 1<=_;omega,(vE g j).1 d⟩,zf [0,1,2],dC⟩
   .refine wc<|wg (zcE t x.b ht)<|⟨λd=>bad _ (ziO h m n g j d),λd=>?_⟩;have d:(ku t x.b).2=0:=XR d;exact Ar.fit dC<|⟨2,⟨by show 2<=_;omega,(vE g j).1 d⟩,zf [0,1,2],dC⟩
   refine wc<|wg (zcE t x.c ht)<|⟨λd=>bad _ (ziO h m n g j d),λd=>?_⟩;have d:(ku t x.c).2=0:=XR d;exact Ar.fit dC<|⟨3,⟨by show 3<=_;omega,(vE g j).1 d⟩,zf [0,1,2],dC⟩
  have q:¬(k:Int)<nm x.v:=q;have B:k=(nm x.v).toNat:=oM
  have hall:(kD x).take k=kD x:=by
   rw[Xi];unfold kD;simp;omega
  rw[hall]at g;refine wc<|Ob.mk ⟨oM,z⟩ λy(o:l[i]?=some y)=>?_;rw[n]at o;cases o
  refine⟨Sg,sgE,[part (λp=>(ku t p).1) k x],rfl,wb0 ?_⟩;refine⟨[part (λp=>(ku t p).1) k x],rfl,Ob.mk ⟨(by show _*(56:Int)<=_;simp only[Xn,Xs];omega),(by simp only[Xn,Xs];omega),dC,λ_ _=>rfl⟩ ?_⟩;exact wa<|⟨i+1,⟨by show i+1<=_;omega,zxW m n g⟩,zt [0,4] ⟨aR (by rw[Xm,n,B];simp[zn5 t C,zfI]),rfl,tV⟩,oN⟩
 have u:i=l.length:=by omega
 rw[u,X9]at m;have w:trans t l=(l.map (zaf t),0):=by rw[trans,Xc A,m,Xc (λk=>k rfl)]
 rw[show(trans t l).1=(l.take i).map (zaf t) by rw[w,u,X9],show(trans t l).2=0 by rw[w]];exact zO .refl .refl
instance (t:AF) (n:Nat):Decidable (t.le n):=wi
def y6(p:Nat×SV):Nat×SV:=
 match p.2 with
 |.loc k o=>(p.1,.loc k o)
 |_=>(p.1,.junk)
def zhw:∀(L:LP) (t:Nat) (s:SV),kF (L.map y6) t=some s->s=.junk∨∃k o,s=.loc k o/\kF L t=some (.loc k o)
 |[],t,s,h=>by simp[kF]at h
 |(d,b)::L,t,s,h=>by
  have e:(((d,b)::L).map y6)=(d,(y6 (d,b)).2)::L.map y6:=by
   simp only[Qr];congr 1;unfold y6;dsimp only;split <;> rfl
  rw[e,zU]at h
  split at h
  .rename_i a
   cases h
   unfold y6;dsimp only
   split
   .rename_i k o;exact .inr ⟨k,o,rfl,by rw[zU,Xe a]⟩
   exact .inl rfl
  rename_i a
  rcases zhw L t s h with h|⟨k,o,g,j⟩
  .exact .inl h
  exact .inr ⟨k,o,g,by rw[zU,Xc a,j]⟩
def zBj:SV->Bool
 |.loc _ _=>true
 |_=>false
def zFc(K:St->Prop):LH
 |.exit _,_=>False
 |.normal,Z=>K Z
 |.ret,Z=>K Z
def zvT(n:Nat)(P:Program)(H:LS)(fn cfn:Func)(cc:Code)(caps:LR)(r:SV)(Z3:St):Prop:=
 Nat.beq Z3.M.length Z3.nk=true/\jw P H cc ⟨jm 0 caps,Z3.M,Z3.M.length,cfn.ntmps,Z3.M.length⟩ (zFc λZ4=>zbm Z4 H cfn.results.toList λ_=>
  zbm ⟨Z3.L.map y6,Z4.M,Z4.nk,Z3.nt,0⟩ H fn.results.toList λs=>LE (zjG (zW Z4.M) n s) r)
def zDO(n:Nat)(P:Program)(H:LS)(fn cfn:Func)(cc:Code)(caps:LR)(r:SV)(Z3:St):Prop:=∃Z',Sub Z3 Z'/\zvT n P H fn cfn cc caps r Z'
def zGM(n:Nat)(P:Program)(H:LS)(fn cfn:Func)(cf:FuncId)(t:Tmp)(rest cc:Code)(r:SV)(Z2:St):Prop:=
 ∃caps,kF Z2.L t=some (.fn cf caps)/\Nat.ble caps.length cfn.ntmps=true/\caps.all zBj=true/\jw P H rest ⟨Z2.L,Z2.M,Z2.nk,Z2.nt,Z2.nk⟩ (zFc (zDO n P H fn cfn cc caps r))
def vcDf(n:Nat)(P:Program)(H:LS)(fn cfn:Func)(cf:FuncId)(cc:Code)(r:SV):Nat->Code->St->Prop
 |0,c,Z=>∃id b a rest t,c=.seq (.region id #[b,a] false) rest/\a.op=.defer ⟨.value (.tmp t),#[],#[]⟩/\a.guard=none/\a.dst=none/\
   ve P H false [b,a] [b] 0 Z (zGM n P H fn cfn cf t rest cc r)
 |k+1,c,Z=>∃x y,c=.seq x y/\jw P H x Z λe Z=>match e with
   |.normal=>vcDf n P H fn cfn cf cc r k y Z
   |.ret=>zbm Z H fn.results.toList λs=>LE (zjG (zW Z.M) n s) r
   |.exit _=>False
variable{r:SV}
def zBk{E:Env}{M:LT}{O:zh}{w:World}{n:Nat}{s:SV}{v:Value}(y:zJ E.Keep M O w)(o:LE (zjG (zW M) n s) r)(q:G (λb=>E.Keep b∨Own M O b) (Own M O) O w s v):G (λb=>E.Keep b∨Own [] O b) (Own [] O) O w r v:=by
 have p:∀{s:SV} {v:Value},G (λb=>E.Keep b∨Own M O b) (Own M O) O w s v->D (λb=>E.Keep b∨Own [] O b) w (frz (zW M) n s) v:=λh=>
  (znJ (λk m h=>zA h) y n h).less λb u=>u.resolve_right zN
 refine o _ _ _ _ _ ?_;unfold zjG
 split
 .rename_i t;obtain⟨vs,rfl,a⟩:=q.tup_inv;refine .tup _ vs (by rw[Xw];exact a.1) λj s v e z=>?_
  rw[XD]at e
  cases g:t[j]? with
  |none=>simp[g]at e
  |some c=>
   simp[g]at e;subst e;exact .d _ _ (p (a.2 j c v g z))
 exact .d _ _ (p q)
def zsn{n:Nat}{P:Program}{H:LS}(hT:TOK P H)(hm:P.follows .mixedOrders=true){cf:FuncId}{fn cfn:Func}{cc:Code}{r:SV}(X:P.funcs[cf]?=some cfn)(W:cfn.body=some cc)(hcn:(cfn.name== "runtime.NumGoroutine")=false) {Keep:LI} {O:zh} {w:World} (hk:∀b,Keep b->b<w.heap.size) (hρ:∀k,0<=k->O k=none) {RF:Ending->World->Prop}
  (hRF:∀e w',RF e w'↔∃v O',e=.returned v/\Stp (Own [] O) (Own [] O') O O' w w'/\zJ Keep [] O' w'/\G (λb=>Keep b∨Own [] O' b) (Own [] O') O' w' r v):
  ∀(k:Nat) (c:Code) {Z1:St} {O1:zh} {a1:Act} {w1:World},Rel ⟨w,O,Keep,Own [] O,[]⟩ Z1 O1 a1 w1->vcDf n P H fn cfn cf cc r k c Z1->c.wp P (bodyPostD P fn RF) a1 w1
 |k+1,c,Z1,O1,a1,w1,C,h=>by
  obtain⟨x,y,rfl,h⟩:=h;refine wp_seq (Code.wp_mono (λe A E B=>?_) (kU hT hm x C h))
  cases e with
  |normal=>obtain⟨Z,O',T,h2⟩:=B;exact zsn hT hm X W hcn hk hρ hRF k y h2 T
  |ret=>
   obtain⟨Z,O',T,hr⟩:=B;obtain⟨s,hles,h8⟩:=jL hT T;obtain⟨v,z,hgv⟩:=h8 hr;have g:=hr.stp;show Leaves P fn A.tmps RF A.defers .returning E;have Y:A.defers=[]:=hr.defers;rw[Y];refine⟨v,z,(hRF _ _).2 ⟨v,O',rfl,?_,(qr hr.mem.kp λ_ _ h=>hr.mem.glc h),zBk hr.mem hles hgv⟩⟩;exact⟨g.os,g.tape,g.output,g.size,λb U hn=>g.block b U λh=>hn h,λb U=>absurd U zN,g.rho⟩
  |exit id=>obtain⟨Z,O',T,_⟩:=B;exact T.elim
  |_=>exact B.elim
 |0,c,Z1,O1,a1,w1,C,h=>by
  obtain⟨id,D,o2,rest,t,rfl,ho,hg,hd,T⟩:=h;refine wp_seq (wp_region_list ?_);obtain⟨Z',run,svs,s,S,h2,hgd,href,hdst,hrun⟩:=zgO hT C T
  have hr1':Rel ⟨w,O,Keep,Own [] O,[]⟩ Z' O1 a1 w1:=by
   rcases href with rfl|⟨t,s0,s1,q2,q3,rfl⟩
   .exact C
   exact C.refine q2 q3
  have hnt:Z'.nt=Z1.nt:=by rcases href with rfl|⟨t,s0,s1,q2,q3,rfl⟩ <;> rfl
  have go2:∀{O2:zh} {A:Act} {E:World} {Q:LF},(∀a w,rest.wp P (bodyPostD P fn RF) a w->Q .normal a w)->Rel ⟨w,O,Keep,Own [] O,[]⟩ (Z'.app D.dst s S) O2 A E->
    wpList P #[D,o2] Q [o2] A E:=by
   intro O2 A E Q hQ u;obtain⟨caps,hlt,hcle,hall,h3⟩:=h2;have hgt:=(u.regs t _ hlt).2;obtain⟨cvs,hcv,hcg⟩:=hgt.fn_inv;have hw:Region.wanted o2 (yielded (#[D,o2]:Array Oper) A.tmps)=true:=u.wanted (all:=[D,o2]) (by simp[q9,hg]);unfold wpList;rw[hw];simp only[if_true];refine .inl ?_;unfold Oper.wp
   have hex:(execOp A.eval o2).run P E=.ok (.defer ⟨.fn (.func cf) cvs.toArray,#[]⟩) E:=by
    have hev:A.eval (.tmp t)=.func (.func cf) #[] cvs.toArray:=hcv;simp only[execOp,ho,resolve,hev,Deferred.ofValue,Sem.run_bind,Sem.run_pure,Result.andThen_ok];simp
   rw[hex,Oper.upon_defer,hd];refine hQ _ _ ?_;show rest.wp P _ { A with defers:=_::A.defers } E;have Y:A.defers=[]:=u.defers;rw[Y]
   -- the rest,with the call put off
   let E3:Env:=⟨E,O2,Keep,Own (Z'.app D.dst s S).M O2,[⟨.fn (.func cf) cvs.toArray,#[]⟩]⟩
   have m:Rel E3 ⟨(Z'.app D.dst s S).L,(Z'.app D.dst s S).M,(Z'.app D.dst s S).nk,(Z'.app D.dst s S).nt,(Z'.app D.dst s S).nk⟩ O2 { A with defers:=[⟨.fn (.func cf) cvs.toArray,#[]⟩] } E:=
    ⟨u.size,rfl,u.regs,u.mem,u.fresh,.refl,u.mem.kp,λk v z=>by
     rcases Kc k (Z'.app D.dst s S).nk with h|h
     .exact h
     have z:O2 k=some v:=z
     rw[u.fresh k h]at z;cases z⟩
   refine Code.wp_mono (λe I w3 B=>?_) (kU hT hm rest m h3)
   have fin:∀Z3 O3,zvT n P H fn cfn cc caps r Z3->Rel E3 Z3 O3 I w3->Leaves P fn I.tmps RF I.defers .returning w3:=by
    intro Z3 O3 ⟨hbeq,J⟩ m;have hlen:=Xk hbeq;have hd3:I.defers=[⟨.fn (.func cf) cvs.toArray,#[]⟩]:=m.defers;rw[hd3];have hρ3:∀k,Z3.M.length<=k->O3 k=none:=λk hk=>m.fresh k oM
    have hcg3:Gs (λb=>Keep b∨Own Z3.M O3 b) (Own Z3.M O3) O3 w3 caps cvs:=by
     refine⟨hcg.1,λj s v N z=>?_⟩;have hl:zBj s=true:=XX.1 hall s (Xf N)
     cases s <;> try (simp[zBj]at hl)
     rename_i k off;obtain⟨b,V,rfl⟩:=(hcg.2 j _ v N z).loc_inv;exact .loc _ _ _ (m.stp.rho _ _ V)
    have hent:=vg (nt:=cfn.ntmps) m.mem hρ3 hcg3 (Xz hcle);refine leaves_cons sI (f:=cf) (args:=cvs.toArray) ?_ ?_
    .simp only[invoke,callFunc,Sem.run_bind,Sem.run_pure,Result.andThen_ok,run_program,X,hcn,W,Option.isNone_some,KF,if_false];simp
    refine(callsD_of_wp (R:=λe F=>∃v0,e=.returned v0/\Leaves P fn I.tmps RF [] .returning F) X W ?_).mono ?_
    .refine Code.wp_mono (λe a4 F B=>?_) (kU hT hm cc hent J)
     have fin2:∀Z4 O4,(zbm Z4 H cfn.results.toList λ_=>zbm ⟨Z3.L.map y6,Z4.M,Z4.nk,Z3.nt,0⟩ H fn.results.toList λs=>LE (zjG (zW Z4.M) n s) r)->
       Rel ⟨w3,O3,Keep,Own Z3.M O3,[]⟩ Z4 O4 a4 F->a4.defers=[]/\∃v,(results cfn a4.tmps).run P F=.ok v F/\∃v0,Ending.returned v=.returned v0/\
        Leaves P fn I.tmps RF [] .returning F:=by
      intro Z4 O4 K q;obtain⟨s0,h6,h7⟩:=jL hT K;obtain⟨v0,hv0,_⟩:=h7 q;refine⟨q.defers,v0,hv0,v0,rfl,?_⟩;have g:Stp (Own [] O) (Own Z4.M O4) O O4 w F:=(u.stp.trans m.stp).trans q.stp
      have hfin:Rel ⟨w,O,Keep,Own [] O,I.defers⟩ ⟨Z3.L.map y6,Z4.M,Z4.nk,Z3.nt,0⟩ O4 I F:=by
       refine⟨m.size,rfl,λt s hl=>?_,q.mem,q.fresh,g,hk,λk v z=>?_⟩
       .rcases zhw Z3.L t s hl with rfl|⟨k,o,rfl,h8⟩
        .refine⟨?_,.d _ _ (.junk _)⟩
         have:∃s,kF Z3.L t=some s:=by
          clear K h6 h7 J m q hent
          revert hl
          generalize Z3.L=L;intro hl
          induction L with
          |nil=>simp[kF]at hl
          |cons p L ih=>
           obtain⟨d,s0⟩:=p
           by_cases hd:d=t
           .exact⟨s0,by rw[zU,Xe hd]⟩
           rw[zU,Xc hd];refine ih ?_
           have e:(((d,s0)::L).map y6)=(d,(y6 (d,s0)).2)::L.map y6:=by
            simp only[Qr];congr 1;unfold y6;dsimp only;split <;> rfl
           have hl':kF (((d,s0)::L).map y6) t=some .junk:=hl;rw[e,zU,Xc hd]at hl';exact hl'
         obtain⟨s,N⟩:=this;exact(m.regs t s N).1
        obtain⟨h9,h10⟩:=m.regs t _ h8;refine⟨h9,?_⟩;obtain⟨b,V,hb2⟩:=h10.loc_inv;rw[hb2];exact .loc _ _ _ (q.stp.rho _ _ V)
       have z:O k=some v:=z;rw[hρ k (Xh _)]at z;cases z
      obtain⟨s,hles,h8⟩:=jL hT h6;obtain⟨v,z,hgv⟩:=h8 hfin;refine⟨v,z,(hRF _ _).2 ⟨v,O4,rfl,?_,(qr hfin.mem.kp λ_ _ h=>hfin.mem.glc h),?_⟩⟩
      .exact⟨g.os,g.tape,g.output,g.size,λb U hn=>g.block b U hn,λb U=>absurd U zN,g.rho⟩
      exact zBk hfin.mem hles hgv
     cases e with
     |normal=>obtain⟨Z4,O4,K,q⟩:=B;exact fin2 Z4 O4 K q
     |ret=>obtain⟨Z4,O4,K,q⟩:=B;exact fin2 Z4 O4 K q
     |exit id=>obtain⟨Z4,O4,K,_⟩:=B;exact K.elim
     |_=>exact B.elim
    rintro e u' F ⟨rfl,v0,rfl,hL⟩
    exact hL
   cases e with
   |normal=>obtain⟨Z3,O3,⟨Z',N,J⟩,m⟩:=B;obtain⟨O',hr'⟩:=N _ _ _ _ m;exact fin Z' O' J hr'
   |ret=>obtain⟨Z3,O3,⟨Z',N,J⟩,m⟩:=B;obtain⟨O',hr'⟩:=N _ _ _ _ m;exact fin Z' O' J hr'
   |exit id=>obtain⟨Z3,O3,J,_⟩:=B;exact J.elim
   |_=>exact B.elim
  unfold wpList;rw[hr1'.wanted hgd]
  obtain⟨rfl,g⟩|⟨rfl,rfl,rfl⟩:=hrun
  .simp only[if_true];refine .inl ((g.does hr1').wp λv w' ha=>?_);obtain⟨O',hrel⟩:=hr1'.app (λt e=>hnt ▸ hdst t e) ha;exact go2 (λ_ _ h=>h) hrel
  simp only[KF,if_false];obtain⟨O',hrel⟩:=hr1'.app (λt e=>hnt ▸ hdst t e) (uX hr1'.mem);exact go2 (λ_ _ h=>h) hrel
def zn6(n k:Nat){P:Program}{H:LS}(hT:TOK P H)(t:P.follows .mixedOrders=true){f cf:FuncId}{fn cfn:Func}{c:Code}{args:LR}{cc:Code}(q:P.funcs[f]?=some fn)(p:fn.body=some c)(u:(fn.name== "runtime.NumGoroutine")=false)
  (o:Nat.ble args.length fn.ntmps=true) (g:P.funcs[cf]?=some cfn) (d:cfn.body=some cc) (j:(cfn.name== "runtime.NumGoroutine")=false)
  (h:vcDf n P H fn cfn cf cc r k c ⟨jm 0 args,[],0,fn.ntmps,0⟩):qg P f args [] r []:=by
 refine⟨⟨fn,q,u,by rw[p];rfl⟩,λKeep O w vs s a hρ m=>?_⟩;have hRF:∃RF:Ending->World->Prop,∀e w',RF e w'↔∃v O',e=.returned v/\Stp (Own [] O) (Own [] O') O O' w w'/\zJ Keep [] O' w'/\G (λb=>Keep b∨Own [] O' b) (Own [] O') O' w' r v:=⟨_,λ_ _=>Qj⟩;obtain⟨RF,hRF⟩:=hRF;refine Calls.mono ?_ λe w' h=>(hRF e w').1 h
 refine calls_of_wp_defers q p ?_;have hrel:=vg (nt:=fn.ntmps) a hρ m (Xz o);exact zsn hT t g d j s hρ hRF k c hrel h
structure Pix where
 r:Int
 g:Int
 b:Int
 a:Int
 deriving DecidableEq
def zey(p:Pix):LR:=[u8 p.r,u8 p.g,u8 p.b,u8 p.a]
structure Img where
 w:Int
 h:Int
 px:List Pix
 deriving DecidableEq
def zlY(m:Img):LR:=[i64 m.w,i64 m.h,.sl zey m.px]
def zgp(p:Pix):Prop:=p.r<=p.a/\p.g<=p.a/\p.b<=p.a
instance (p:Pix):Decidable (zgp p):=wi
def zfM(m:Img):Prop:=(1<=m.w/\m.w<=4096)/\(1<=m.h/\m.h<=4096)/\m.w*m.h<=65536/\(m.px.length:Int)=m.w*m.h/\∀p∈m.px,zgp p
instance (m:Img):Decidable (zfM m):=wi
def zhB(x r g b a:Int):CX 395 [u8 x,.ptr [u8 r,u8 g,u8 b,u8 a]] (u8 (min x a)):=by
 exact zc func395<|ze rfl
def zGO(p:Pix)(r g b a:Int):CX 394 [.agg (zey p),.fn 395 [.ptr [u8 r,u8 g,u8 b,u8 a]]] (.agg [u8 (min p.r a),u8 (min p.g a),u8 (min p.b a),u8 (min p.a a)]):=by
 refine zc func394<|wc<|wg (zhB _ r g b a)<|wg (zhB _ r g b a)<|wg (zhB _ r g b a)<|wg (zhB _ r g b a) ?_;exact .refl
def zBl(p:Pix):CX 339 [.agg (zey p)] (.agg [u8 (min p.r p.a),u8 (min p.g p.a),u8 (min p.b p.a),u8 (min p.a p.a)]):=by
 exact zc func339<|wg (zGO p p.r p.g p.b p.a)<|.refl
def zBm(p:Pix):CX 270 [.agg (zey p)] (pr (zgp p)):=by
 refine zc func270<|wc<|wg (zBl p)<|zB (p:=min p.r p.a=p.r/\min p.g p.a=p.g/\min p.b p.a=p.b/\min p.a p.a=p.a/\True) ?_;constructor
 .rintro⟨d,e,h,_⟩
  exact⟨oM,oM,oM⟩
 rintro⟨d,e,h⟩
 exact⟨oM,oM,oM,oM,tV⟩
def zxZ(p:Pix):CX 269 [.agg (zey p)] (pr (¬zgp p)):=by
 exact zc func269<|wg (zBm p)<|zB Qj
def zgq(xs:List Pix):Int:=match xs.findIdx? (λp=>decide (¬zgp p)) with
 |some i=>i
 |none=> -1
def zx0{xs:List Pix}{i:Nat}{p:Pix}(h:∀(j:Nat) q,j<i->xs[j]?=some q->zgp q)(hi:xs[i]?=some p)(e:¬zgp p):zgq xs=i:=by
 have:xs.findIdx? (λp=>decide (¬zgp p))=some i:=by
  rw[KN];obtain⟨d,a⟩:=Xd.1 hi;refine⟨d,by simp[a,e],λj b=>?_⟩;have:=h j xs[j] b (Xb _);simp[this]
 simp only[zgq,this]
variable{xs:List Pix}
def zjv(h:∀p∈xs,zgp p):zgq xs= -1:=by
 have:xs.findIdx? (λp=>decide (¬zgp p))=none:=by
  rw[Kz];intro p a;simp[h p a]
 simp only[zgq,this]
def zmT:0<=zgq xs↔¬∀p∈xs,zgp p:=by
 constructor
 .intro h hall;rw[zjv hall]at h;omega
 intro h;unfold zgq
 split
 .omega
 rename_i a;rw[Kz]at a;exact absurd (λp b=>by simpa using a p b) h
def zDT(xs:List Pix)(u:xs.length<=9223372036854775807):CX 338 [.sl zey xs,.fn 269 []] (i64 (zgq xs)):=by
 refine zc func338 λn=>?_;refine⟨Int,λi=>⟨[(8,i64 i),(7,i64 xs.length),(0,.sl zey xs),(1,.fn 269 [])],[],0,19,0⟩,λi=>0<=i/\i<=xs.length/\∀(j:Nat) q,(j:Int)<i->xs[j]?=some q->zgp q,λi=>((xs.length:Int)-i).toNat,0,?_,?_,?_⟩
 .exact⟨oM,oM,λj q a=>by omega⟩
 .exact zC []
 rintro i ⟨s,t,b⟩
 refine⟨λk=>?_,λk=>?_⟩
 .refine wb λx h=>wg (zxZ x)<|⟨λd=>?_,λd=>?_⟩
  .refine ze ?_;rw[zx0 (i:=i.toNat) (λj q a=>b j q oM) h d];omega
  refine wa<|⟨i+1,⟨oM,oM,λj q a g=>?_⟩,zC [],oN⟩
  by_cases e:j=i.toNat
  .subst e;rw[h]at g;cases g;exact Xa.1 d
  exact b j q oM g
 refine ze (zjv λp o=>?_).symm;obtain⟨j,a,m⟩:=Ks o;exact b j p oM (by rw[←m];exact Xb a)
def zui(xs:List Pix)(a:xs.length<=9223372036854775807):CX 268 [.sl zey xs,.fn 269 []] (pr (¬∀p∈xs,zgp p)):=by
 exact zc func268<|wg (zDT xs a)<|zB zmT
def zFd(n:Int):CX 267 [i64 n] (pr (1<=n/\n<=4096)):=by
 refine zc func267<|Br.mk (λh=>?_) (λh=>?_)
 .exact zB oM
 exact zd oM
def zBn{a b A B:Int}(e:0<=a)(g:a<=A)(d:0<=b)(h:b<=B):0<=a*b/\a*b<=A*B:=
 ⟨XI e d,JZ g h d oM⟩
def zn7(m:Img)(j:m.px.length<=9223372036854775807):CX 190 [.agg (zlY m)] (pr (zfM m)):=by
 refine zc func190<|wg (zFd m.w)<|⟨λa=>?_,λa=>?_⟩
 .exact zd (λh=>a h.1)
 have a:=Xa.1 a;refine wg (zFd m.h)<|⟨λb=>?_,λb=>?_⟩
 .exact zd (λh=>b h.2.1)
 have b:=Xa.1 b;have n:=zBn (show 0<=m.w by omega) a.2 (show 0<=m.h by omega) b.2;refine wa<|Br.mk (λg=>?_) (λg=>?_)
 .exact zd (λh=>by have:=h.2.2.1;omega)
 intro k;refine wa<|Br.mk (λd=>?_) (λd=>?_)
 .exact zd (λh=>d h.2.2.2.1)
 exact wg (zui m.px j)<|zB<|⟨λh=>⟨a,b,oM,Xa.1 d,Xa.1 h⟩,λh e=>e h.2.2.2.2⟩
def zGP(w h:Int):CX 210 [i64 w,i64 h] (pr ((1<=w/\w<=4096)/\(1<=h/\h<=4096)/\w*h<=65536)):=by
 refine zc func210<|Br.mk (λd=>?_) (λd=>zd oM);refine⟨λa=>?_,λa=>zd oM⟩;refine⟨λe=>?_,λe=>zd oM⟩;refine⟨λb=>?_,λb=>zd oM⟩;have g:=zBn (show 0<=w by omega) a (show 0<=h by omega) b;exact wa<|zB ⟨λh=>⟨⟨d,a⟩,⟨e,b⟩,h⟩,λh=>h.2.2⟩
def zx1(p:Pix):CX 211 [.agg (zey p)] (pr (zgp p)):=by
 refine zc func211<|Br.mk (λa=>?_) (λa=>zd (λh=>a h.1));refine⟨λb=>?_,λb=>zd (λh=>b h.2.1)⟩;exact zB ⟨λh=>⟨a,b,h⟩,λh=>h.2.2⟩
def zlZ(m:Img):CX 139 [.agg (zlY m)] (pr (zfM m)):=by
 refine zc func139<|wg (zGP m.w m.h)<|⟨λa=>zd (λh=>a ⟨h.1,h.2.1,h.2.2.1⟩),λa=>?_⟩;have a:=Xa.1 a;have B:=zBn (show 0<=m.w by omega) a.1.2 (show 0<=m.h by omega) a.2.1.2;intro u;refine wa<|Br.mk (λb=>zd (λh=>b h.2.2.2.1)) (λb=>?_);have b:=Xa.1 b
 refine⟨Int,λi=>⟨[(3,i64 i),(1,.loc 0 0)],[(0,.box 64 (zlY m))],1,35,0⟩,λi=>0<=i/\i<=m.px.length/\∀(j:Nat) q,(j:Int)<i->m.px[j]?=some q->zgp q,λi=>((m.px.length:Int)-i).toNat,0,?_,?_,?_⟩
 .exact⟨oM,oM,λj q g=>by omega⟩
 .exact zf [0]
 rintro i ⟨z,A,n⟩
 intro v;refine⟨λs=>?_,λs=>?_⟩
 .refine wb λx o=>wg (zx1 x)<|⟨λd=>?_,λd=>?_⟩
  .exact zd λh=>d (h.2.2.2.2 x (Xf o))
  refine wa<|⟨i+1,⟨oM,oM,λj q g k=>?_⟩,zf [0],oN⟩
  by_cases e:j=i.toNat
  .subst e;rw[o]at k;cases k;exact Xa.1 d
  exact n j q oM k
 refine zH ⟨a.1,a.2.1,a.2.2,b,λp y=>?_⟩;obtain⟨j,g,t⟩:=Ks y;exact n j p oM (by rw[←t];exact Xb g)
def zl0{p q:Pix}:(p.r=q.r/\p.g=q.g/\p.b=q.b/\p.a=q.a/\True)↔p=q:=by
 cases p;cases q;simp
def zDU{ys:List Pix}{i:Int}(b:(xs.length:Int)=ys.length)(hi:¬i<xs.length)(h:∀j:Nat,(j:Int)<i->xs[j]?=ys[j]?):xs=ys:=by
 refine Kw λj=>?_
 by_cases a:(j:Int)<i
 .exact h j a
 rw[XG oM,XG oM]
def zDV(xs ys:List Pix):CX 334 [.sl zey xs,.sl zey ys] (pr (xs=ys)):=by
 refine zc func334 λn o=>?_;refine⟨λa=>zd λe=>a (by rw[e]),λa=>?_⟩;have a:=Xa.1 a;intro p;refine⟨Int,λi=>⟨[(13,i64 i),(12,i64 xs.length),(0,.sl zey xs),(1,.sl zey ys)],[],0,26,0⟩,λi=>0<=i/\i<=xs.length/\∀j:Nat,(j:Int)<i->xs[j]?=ys[j]?,λi=>((xs.length:Int)-i).toNat,0,?_,?_,?_⟩
 .exact⟨oM,oM,λj m=>by omega⟩
 .exact zC []
 rintro i ⟨q,s,g⟩
 refine⟨λh=>?_,λh=>?_⟩
 .refine wc<|wb λx k=>wb λy d=>?_;refine⟨λb=>?_,λb=>?_⟩
  .refine zd λe=>b (zl0.2 ?_)
   subst e;rw[k]at d;exact Xl d
  refine wa<|⟨i+1,⟨oM,oM,λj m=>?_⟩,zC [],oN⟩
  by_cases e:j=i.toNat
  .subst e;rw[k,d,zl0.1 (Xa.1 b)]
  exact g j oM
 exact zH (zDU a h g)
def zn8(m n:Img):CX 265 [.agg (zlY m),.agg (zlY n)] (pr (m=n)):=by
 refine zc func265<|Br.mk (λa=>?_) (λa=>zd λe=>a (by rw[e]));refine⟨λb=>?_,λb=>zd λe=>b (by rw[e])⟩;refine wg (zDV m.px n.px)<|zB ⟨λh=>?_,λh=>by rw[h]⟩
 cases m;cases n;simp_all
def zez:Pix:=⟨0,0,0,0⟩
structure ziP where
 o:Int
 c:Pix
 deriving DecidableEq
def zdB(s:ziP):LR:=[i64 s.o,u8 s.c.r,u8 s.c.g,u8 s.c.b,u8 s.c.a]
def zvU{p q:ziP}:(p.o=q.o/\p.c.r=q.c.r/\p.c.g=q.c.g/\p.c.b=q.c.b/\p.c.a=q.c.a/\True)↔p=q:=by
 obtain⟨a,b,c,d,e⟩:=p;obtain⟨h,j,k,m,n⟩:=q;simp
def zso:Int->List ziP->Prop
 |_,[]=>True
 |lo,s::l=>(lo<=s.o/\s.o<=65536)/\zso s.o l
instance upDec:∀lo l,Decidable (zso lo l)
 |_,[]=>isTrue trivial
 |_,s::l=>haveI:=upDec s.o l;inferInstanceAs (Decidable (_/\_))
def zfk(l:List ziP):Prop:=(1<=(l.length:Int)/\(l.length:Int)<=16)/\zso 0 l
instance (l:List ziP):Decidable (zfk l):=wi
def zBo(l:List ziP):CX 448 [.sl zdB l] (pr (zfk l)):=by
 refine zc func448 λm=>?_;refine⟨λh=>zd (λk=>by have:=k.1.1;omega),λu=>?_⟩;intro n;refine⟨λh=>zd (λk=>by have:=k.1.2;omega),λv=>?_⟩;intro p;refine⟨Int×Int,λ⟨i,at_⟩=>⟨[(3,i64 at_),(14,.sl zdB l),(15,i64 l.length),(16,i64 i)],[],0,32,0⟩,λ(i,at_)=>0<=i/\i<=l.length/\(zso 0 l↔zso at_ (l.drop i.toNat)),λ(i,_)=>((l.length:Int)-i).toNat,(0,0),?_,?_,?_⟩
 .exact⟨oM,oM,Qj⟩
 .exact zC []
 rintro⟨i,at_⟩ ⟨s,t,a⟩
 refine⟨λb=>?_,λb=>?_⟩
 .refine wb λx q=>?_
  have g:l.drop i.toNat=x::l.drop (i.toNat+1):=by
   obtain⟨hi,j⟩:=Xd.1 q;rw[K6 hi,j]
  rw[g]at a;refine⟨λd=>zd (λk=>by have:=(a.1 k.2).1;omega),λd=>?_⟩;refine⟨λe=>zd (λk=>by have:=(a.1 k.2).1;omega),λe=>?_⟩;refine wa<|⟨(i+1,x.o),⟨oM,oM,?_⟩,zC [],oN⟩;rw[a,show(i+1).toNat=i.toNat+1 by omega];exact⟨λk=>k.2,λk=>⟨oM,k⟩⟩
 refine zH ⟨oM,a.2 ?_⟩;rw[KD oM];trivial
def zn9(l:List ziP):CX 399 [.sl zdB l] (pr (zfk l)):=by
 refine zc func399<|⟨Int×Int,λ⟨i,_⟩=>⟨[(0,.sl zdB l),(3,i64 i)],[],0,50,0⟩,λ(i,at_)=>0<=i/\i<=l.length/\(i=0->at_=0)/\(0<i->0<=at_/\∃y,l[(i-1).toNat]?=some y/\y.o=at_)/\(zso 0 l↔zso at_ (l.drop i.toNat)),λ(i,_)=>((l.length:Int)-i).toNat,(0,0),?_,?_,?_⟩
 .exact⟨oM,oM,λ_=>rfl,λh=>by omega,Qj⟩
 .exact zC []
 rintro⟨i,at_⟩ ⟨E,F,j,m,b⟩
 intro z;refine⟨λq=>?_,λq=>?_⟩
 .refine wc<|wb λx d=>?_
  have v:l.drop i.toNat=x::l.drop (i.toNat+1):=by
   obtain⟨hi,w⟩:=Xd.1 d;rw[K6 hi,w]
  rw[v]at b
  have u:0<=at_:=by
   by_cases p:0<i
   .exact(m p).1
   have:=j oM;omega
  refine⟨λg=>zd (λk=>by have:=(b.1 k.2).1;omega),λg=>?_⟩;refine wb λx' a=>?_;rw[d]at a;cases a
  refine⟨λs=>zd (λk=>by have:=(b.1 k.2).1;omega),λs=>?_⟩;refine⟨λn=>?_,λn=>?_⟩
  .obtain⟨_,y,C,D⟩:=m n;refine wb λx' a=>?_;rw[d]at a;cases a
   refine wa<|wb λG e=>?_;rw[C]at e;cases e
   refine⟨λt=>zd (λk=>by have:=(b.1 k.2).1;omega),λt=>?_⟩;refine wa<|⟨(i+1,x.o),⟨oM,oM,λh=>by omega,λ_=>⟨oM,x,by rw[show(i+1-1).toNat=i.toNat by omega];exact d,rfl⟩,?_⟩,zC [],oN⟩;rw[b,show(i+1).toNat=i.toNat+1 by omega];exact⟨λk=>k.2,λk=>⟨oM,k⟩⟩
  refine wa ?_;have:=j oM;refine⟨(i+1,x.o),⟨oM,oM,λh=>by omega,λ_=>⟨oM,x,by rw[show(i+1-1).toNat=i.toNat by omega];exact d,rfl⟩,?_⟩,zC [],oN⟩;rw[b,show(i+1).toNat=i.toNat+1 by omega];exact⟨λk=>k.2,λk=>⟨oM,k⟩⟩
 have hall:zso 0 l:=b.2 (by rw[KD oM];trivial);intro A;refine⟨λg=>?_,λg=>?_⟩
 .intro B;exact zB ⟨λk=>⟨⟨oM,k⟩,hall⟩,λk=>k.1.2⟩
 exact zd λk=>g k.1.1
def zuj{xs ys:List ziP}{i:Int}(b:(xs.length:Int)=ys.length)(hi:¬i<xs.length)(h:∀j:Nat,(j:Int)<i->xs[j]?=ys[j]?):xs=ys:=by
 refine Kw λj=>?_
 by_cases a:(j:Int)<i
 .exact h j a
 rw[XG oM,XG oM]
def zDW(xs ys:List ziP):CX 447 [.sl zdB xs,.sl zdB ys] (pr (xs=ys)):=by
 refine zc func447 λn o=>?_;refine⟨λa=>zd λe=>a (by rw[e]),λa=>?_⟩;have a:=Xa.1 a;intro p;refine⟨Int,λi=>⟨[(13,i64 i),(12,i64 xs.length),(0,.sl zdB xs),(1,.sl zdB ys)],[],0,26,0⟩,λi=>0<=i/\i<=xs.length/\∀j:Nat,(j:Int)<i->xs[j]?=ys[j]?,λi=>((xs.length:Int)-i).toNat,0,?_,?_,?_⟩
 .exact⟨oM,oM,λj m=>by omega⟩
 .exact zC []
 rintro i ⟨q,s,g⟩
 refine⟨λh=>?_,λh=>?_⟩
 .refine wc<|wb λx k=>wb λy d=>?_;refine⟨λb=>?_,λb=>?_⟩
  .refine zd λe=>b (zvU.2 ?_)
   subst e;rw[k]at d;exact Xl d
  refine wa<|⟨i+1,⟨oM,oM,λj m=>?_⟩,zC [],oN⟩
  by_cases e:j=i.toNat
  .subst e;rw[k,d,zvU.1 (Xa.1 b)]
  exact g j oM
 exact zH (zuj a h g)
def zsp(m:Int):Prop:=1<=m/\m<=3
instance (m:Int):Decidable (zsp m):=wi
def zBp{n:Int}(h:R64 n):yW (n:Rat)<=2:=by
 have a:=zeb n;have b:=jq h;omega
structure Pnt where
 k:Int
 c:Pix
 p0:Pt
 p1:Pt
 r:Int
 st:List ziP
 sp:Int
 im:Img
 sm:Int
 t:AF
def yG(p:Pnt):LR:=
 i64 p.k::u8 p.c.r::u8 p.c.g::u8 p.c.b::u8 p.c.a::i64 p.p0.x::i64 p.p0.y::i64 p.p1.x::i64 p.p1.y::i64 p.r::.sl zdB p.st::i64 p.sp::i64 p.im.w::i64 p.im.h::.sl zey p.im.px::i64 p.sm::afE p.t
def Pnt.same(p q:Pnt):Prop:=p.k=q.k/\p.c=q.c/\p.p0=q.p0/\p.p1=q.p1/\p.r=q.r/\p.st=q.st/\p.sp=q.sp/\p.im=q.im/\p.sm=q.sm/\p.t.same q.t
instance (p q:Pnt):Decidable (p.same q):=wi
def zuk(p q:Pnt)(s:p.t.le 10000000)(u:q.t.le 10000000):CX 389 [.agg (yG p),.agg (yG q)] (pr (p.same q)):=by
 refine zc func389<|Br.mk (λa=>?_) (λa=>zd (λe=>a e.1));refine⟨λb=>?_,λb=>zd (λe=>b (zl0.2 e.2.1))⟩;refine⟨λd=>?_,λd=>zd (λe=>d (qm.2 e.2.2.1))⟩;refine⟨λg=>?_,λg=>zd (λe=>g (qm.2 e.2.2.2.1))⟩;refine⟨λj=>?_,λj=>zd (λe=>j e.2.2.2.2.1)⟩;refine⟨λk=>?_,λk=>zd (λe=>k e.2.2.2.2.2.2.1)⟩;refine⟨λm=>?_,λm=>zd (λe=>m e.2.2.2.2.2.2.2.2.1)⟩;refine wg (zDW p.st q.st) ?_
 refine⟨λn=>?_,λn=>zd (λe=>n e.2.2.2.2.2.1)⟩;refine wg (zn8 p.im q.im)<|⟨λo=>?_,λo=>zd (λe=>o e.2.2.2.2.2.2.2.1)⟩;exact wg (zvh p.t q.t s u)<|zB ⟨λh=>⟨a,zl0.1 b,qm.1 d,qm.1 g,j,n,k,o,m,h⟩,λe=>e.2.2.2.2.2.2.2.2.2⟩
def zl1:LEs uh (afE qE):=by
 have a:LEs z4 (brE zBR):=yX;have h:LEs (z4++(z4++(z4++(z4++(z4++z4))))) (afE qE):=LEs.append a (LEs.append a (LEs.append a (LEs.append a (LEs.append a a))));exact h
def za2(k:Int):Pnt:=⟨k,zez,zp,zp,0,[],0,⟨0,0,[]⟩,0,qE⟩
def nil1:SV:=nS
def zBq(k:Int):LE (.agg (i64 k::u8 0::u8 0::u8 0::u8 0::i64 0::i64 0::i64 0::i64 0::i64 0::nil1::i64 0::i64 0::i64 0::nil1::i64 0::uh)) (.agg (yG (za2 k))):=by
 have h:=zl1;exact jp (.C (.C (.C (.C (.C (.C (.C (.C (.C (.C (.cons zD (.C (.C (.C (.cons zD (.C h))))))))))))))))
def vm(p:Pnt):Pnt:=
 if p.k=1 then { p with c:=zez,t:=qE } else if p.k=2 then { p with p0:=zp,p1:=zp,st:=[],sp:=0,t:=qE }
 else if p.k=3 then { p with p0:=zp,r:=0,st:=[],sp:=0,t:=qE } else if p.k=4 then { p with im:=⟨0,0,[]⟩,sp:=0,sm:=0,t:=qE } else { p with t:=qE }
def zx2(p:Pnt):CX 390 [.agg (yG p)] (.agg (yG (vm p))):=by
 have fin:∀{Z:SV} {q:Pnt},vm p=q->LE Z (.agg (yG q))->LE Z (.agg (yG (vm p))):=λe h=>e ▸ h
 refine zc func390<|Br.mk (λa=>?_) (λa=>?_)
 .exact fin (q:={ p with c:=zez,t:=qE }) (by rw[vm,Xe a])<|jp (.C (.C (.C (.C (.C (.C (.C (.C (.C (.C (.C (.C (.C (.C (.C (.C zl1))))))))))))))))
 refine⟨λb=>?_,λb=>?_⟩
 .exact fin (q:={ p with p0:=zp,p1:=zp,st:=[],sp:=0,t:=qE }) (by rw[vm,Xc a,Xe b])<|jp (.C (.C (.C (.C (.C (.C (.C (.C (.C (.C (.cons zD (.C (.C (.C (.C (.C zl1))))))))))))))))
 refine⟨λd=>?_,λd=>?_⟩
 .exact fin (q:={ p with p0:=zp,r:=0,st:=[],sp:=0,t:=qE }) (by rw[vm,Xc a,Xc b,Xe d])<|jp (.C (.C (.C (.C (.C (.C (.C (.C (.C (.C (.cons zD (.C (.C (.C (.C (.C zl1))))))))))))))))
 refine⟨λg=>?_,λg=>?_⟩
 .exact fin (q:={ p with im:=⟨0,0,[]⟩,sp:=0,sm:=0,t:=qE }) (by rw[vm,Xc a,Xc b,Xc d,Xe g])<|jp (.C (.C (.C (.C (.C (.C (.C (.C (.C (.C (.C (.C (.C (.C (.cons zD (.C zl1))))))))))))))))
 exact fin (q:={ p with t:=qE }) (by rw[vm,Xc a,Xc b,Xc d,Xc g])<|jp (.C (.C (.C (.C (.C (.C (.C (.C (.C (.C (.C (.C (.C (.C (.C (.C zl1))))))))))))))))
def zfN(n:Int):CX 393 [i64 n] (pr (zsp n)):=by
 refine zc func393<|Br.mk (λa=>?_) (λa=>zd (λh=>a h.1));exact zB ⟨λh=>⟨a,h⟩,λh=>h.2⟩
def zbK(n:Int):CX 400 [i64 n] (pr (zsp n)):=by
 refine zc func400<|Br.mk (λa=>?_) (λa=>zd (λh=>a h.1));exact zB ⟨λh=>⟨a,h⟩,λh=>h.2⟩
def zhC(p:Pnt):CX 392 [.agg (yG p)] (pr (zfk p.st/\zsp p.sp)):=by
 refine zc func392<|wg (zBo p.st)<|⟨λa=>?_,λa=>zd (λh=>a h.1)⟩;exact wg (zfN p.sp)<|zB ⟨λh=>⟨a,h⟩,λh=>h.2⟩
abbrev wx(x:Pnt):SV:=.agg (yG x)
abbrev LY:=List Pnt
end Go.Gs
