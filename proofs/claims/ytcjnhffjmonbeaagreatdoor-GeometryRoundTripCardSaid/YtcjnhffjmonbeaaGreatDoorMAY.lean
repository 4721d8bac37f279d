/- The other text's transforms. -/
import Derived.Test.YtcjnhffjmonbeaaGreatDoorMA
import Derived.Test.YtcjnhffjmonbeaaGreatDoorMAX
import Derived.Test.YtcjnhffjmonbeaaGreatDoorMAQ
import Derived.Test.YtcjnhffjmonbeaaGreatDoorMAT
set_option maxRecDepth 100000
set_option maxHeartbeats 8000000
set_option linter.all false
namespace Go.Gs
open Go.Proofs
def y2(t:AF):List BR:=[t.a,t.b,t.c,t.d,t.e,t.f]
theorem zoG{t:AF}{i:Nat}{x:BR}(h:(y2 t)[i]? =some x):x=t.nth i:=by
 have:i < 6:=(List.getElem?_eq_some_iff.1 h).1;have e:i=0∨i=1∨i=2∨i=3∨i=4∨i=5:=oM
 rcases e with rfl | rfl | rfl | rfl | rfl | rfl <;> (cases h;rfl)
theorem zoH{t:AF}{n:Nat}(h:t.le n):∀i,(t.nth i).len<=n:=fun i=>by
 obtain ⟨h1,h2,h3,h4,h5,h6⟩:=h;unfold AF.nth;split <;> assumption
theorem zdm(t:AF):ze Tryz.prog 75 [.agg (afE t)] [] (.sl brE (y2 t)) []:=by
 refine zd tok mix Tryz.func75 rfl rfl rfl ?_;refine ⟨BR,brE,y2 t,rfl,Ob.o0 ?_⟩;exact .refl
theorem zbq(t:AF)(ht:t.le 100000000):ze Tryz.prog 72 [.agg (afE t)] [] (pr t.ok) []:=by
 refine zd tok mix Tryz.func72 rfl rfl rfl ?_;refine zb.t (zdm t) ?_;refine ⟨Nat,fun i=>⟨[(4,i64 i),(3,.sl brE (y2 t))],[],1,19,0⟩,fun i=>i<=6/\okI t i,fun i=>6 - i,0,⟨Nat.zero_le _,trivial⟩,?_,?_⟩
 ·exact zi []
 rintro i ⟨h1,h2⟩
 intro hl;have hl6:(y2 t).length=6:=rfl;refine Br.mk (fun h3=>?_) (fun h3=>?_)
 ·refine Ob.o4 ?_;intro x hx;have hx:(y2 t)[i]? =some x:=hx;have hx:=zoG hx;subst hx;refine zb.t (zmM (t.nth i) (zoH ht i)) ?_;refine Br.mk (fun h4=>?_) (fun h4=>?_)
  ·refine zc fun h=>?_
   have e:i=0∨i=1∨i=2∨i=3∨i=4∨i=5:=oM;simp only [AF.ok,okI] at h
   rcases e with rfl | rfl | rfl | rfl | rfl | rfl <;> omega
  ·refine Ar.o ?_;exact ⟨i+1,⟨oM,h2,oM⟩,zi [],by dsimp only;omega⟩
 ·have:i=6:=by omega
  subst this;exact zH h2
theorem zbr(a b c d:BR)(ha:a.len<=10000000)(hb:b.len<=10000000)(hc:c.len<=10000000)(hd:d.len<=10000000):
  ze Tryz.prog 50 [.agg (brE a),.agg (brE b),.agg (brE c),.agg (brE d)] [] (.agg (brE (ofQ (a.v*b.v+c.v*d.v)))) []:=by
 have l1:=zt a;have l2:=zt b;have l3:=zt c;have l4:=zt d;have m1:=qr a.v b.v;have m2:=qr c.v d.v;refine zd tok mix Tryz.func50 rfl rfl rfl ?_;refine Dr.k ?_;refine zb.t (zhN a b oM oM) ?_;refine zb.t (zhN c d oM oM) ?_;refine zb.t (zhM (ofQ (a.v*b.v)) (ofQ (c.v*d.v)) (by rw [zo];omega) (by rw [zo];omega)) ?_;rw [zN,zN];exact .refl
theorem ztD(t:AF)(x y:BR)(ht:t.le 5000000)(hx:x.len<=5000000)(hy:y.len<=5000000):
  ze Tryz.prog 20 [.agg (afE t),.agg (brE x),.agg (brE y)] [] (.tup [.agg (brE (ofQ (yY t x.v y.v))),.agg (brE (ofQ (yZ t x.v y.v)))]) []:=by
 obtain ⟨ha,hb,hc,hd,he,hf⟩:=ht;have m1:=kK t.a x t.c y t.e ha hx hc hy he;have m2:=kK t.b x t.d y t.f hb hx hd hy hf;refine zd tok mix Tryz.func20 rfl rfl rfl ?_;refine Dr.k ?_;refine zb.t (zbr t.a x t.c y oM oM oM oM) ?_;refine zb.t (zhM (ofQ (t.a.v*x.v+t.c.v*y.v)) t.e (by rw [zo];omega) oM) ?_;refine zb.t (zbr t.b x t.d y oM oM oM oM) ?_;refine zb.t (zhM (ofQ (t.b.v*x.v+t.d.v*y.v)) t.f (by rw [zo];omega) oM) ?_;rw [zN,zN];exact .refl
theorem zsK(a b:BI)(ha:a.mag.length<=800000000)(hb:b.mag.length<=800000000):ze Tryz.prog 52 [.agg (biE a),.agg (biE b)] [] (i64 (a.v - b.v).sign) []:=by
 refine zd tok mix Tryz.func52 rfl rfl rfl ?_;refine zb.t (zoF a b ha hb) ?_;have h1:=ze4 a.v b.v;have h2:=yV a;have h3:=yV b;refine zb.t (zcw (ofZ (a.v - b.v)) (by rw [zB];omega)) ?_;rw [zJ];exact .refl
theorem zhO(a b:BR)(ha:a.len<=100000000)(hb:b.len<=100000000):ze Tryz.prog 21 [.agg (brE a),.agg (brE b)] [] (i64 (zdk a.v b.v)) []:=by
 have h1:=zt a;have h2:=zt b;have h3:=yL a.v;have h4:=yL b.v;have n1:=kj a.v;have n2:=kj b.v;have d1:=ku a.v;have d2:=ku b.v;have m1:=zZ a.v.num b.v.den;have m2:=zZ b.v.num a.v.den;refine zd tok mix Tryz.func21 rfl rfl rfl ?_;refine Dr.k ?_;refine zb.t (zU a oM) ?_;refine zb.t (zU b oM) ?_;refine Dr.k ?_;refine zb.t (zbY (ofQ a.v).num (ofQ b.v).den oM oM) ?_;refine zb.t (zbY (ofQ b.v).num (ofQ a.v).den oM oM) ?_;rw [qt,qt,qm,qm];refine zb.t (zsK (ofZ (a.v.num*b.v.den)) (ofZ (b.v.num*a.v.den)) (by rw [zB];omega) (by rw [zB];omega)) ?_;rw [zJ,zJ]
 exact .refl
theorem zqK(x:Rat):ofQ (-x)=⟨ofZ (-x.num),ofZ x.den⟩:=by unfold ofQ;rw [Rat.neg_num,Rat.neg_den]
theorem zsL(a:BR)(ha:a.len<=100000000):ze Tryz.prog 97 [.agg (brE a)] [] (.agg (brE (ofQ (-a.v)))) []:=by
 have h1:=zt a;have h3:=yL a.v;refine zd tok mix Tryz.func97 rfl rfl rfl ?_;refine zb.t (zU a oM) ?_;refine Dr.k ?_;refine zb.t (zhL (ofQ a.v).num oM) ?_;rw [qt,zqK];exact .refl
theorem zsM(a b:BR)(ha:a.len<=40000000)(hb:b.len<=40000000):ze Tryz.prog 149 [.agg (brE a),.agg (brE b)] [] (.agg (brE (ofQ (a.v - b.v)))) []:=by
 have h2:=zt b;refine zd tok mix Tryz.func149 rfl rfl rfl ?_;refine Dr.k ?_;refine zb.t (zsL b oM) ?_;refine zb.t (zhM a (ofQ (-b.v)) oM (by rw [zo,yM];omega)) ?_;rw [zN,← Rat.sub_eq_add_neg];exact .refl
theorem zuz{a b:BI}{i:Nat}(h1:a.neg=true↔b.neg=true)(hl:a.mag.length=b.mag.length)(hi:¬i < a.mag.length)(h:∀j,j < i->a.mag[j]? =b.mag[j]?):a=b:=by
 obtain ⟨n,m⟩:=a;obtain ⟨n',m'⟩:=b;have e1:n=n':=Bool.eq_iff_iff.2 h1
 have e2:m=m':=List.ext_getElem? fun j=>by
  by_cases hj:j < i
  ·exact h j hj
  ·dsimp only at hl hi;rw [List.getElem?_eq_none oM,List.getElem?_eq_none oM]
 subst e1 e2;rfl
theorem zfh(a b:BI)(ha:a.mag.length<=100000000):ze Tryz.prog 173 [.agg (biE a),.agg (biE b)] [] (pr (a=b)) []:=by
 refine zd tok mix Tryz.func173 rfl rfl rfl ?_;refine Br.mk (fun h1=>zc fun e=>h1 (by rw [e])) (fun h1=>?_);have h1:=Decidable.not_not.1 h1;intro hl1 hl2;refine Br.mk (fun h2=>zc fun e=>h2 (by rw [e])) (fun h2=>?_);have h2:=Decidable.not_not.1 h2;refine ⟨Nat,fun i=>⟨[(5,i64 i),(3,.loc 1 0),(2,.loc 0 0)],[(1,.box 31 (biE b)),(0,.box 31 (biE a))],2,38,0⟩,fun i=>i<=a.mag.length/\∀j,j < i->a.mag[j]? =b.mag[j]?,fun i=>a.mag.length - i,0,⟨Nat.zero_le _,fun j h=>by omega⟩,?_,?_⟩
 ·exact zi [(0,some 0),(1,some 1)]
 rintro i ⟨hi,hs⟩
 intro hl3;refine Br.mk (fun h3=>?_) (fun h3=>zH (zuz h1 oM oM hs));refine Dr.k ?_;refine Ob.o ?_;intro x hx;have hx:a.mag[i]? =some x:=hx;refine Ob.o ?_;intro y hy;have hy:b.mag[i]? =some y:=hy;refine Br.mk (fun h4=>zc fun e=>?_) (fun h4=>?_)
 ·subst e;rw [hx] at hy;cases hy;exact h4 rfl
 ·have h4:=Decidable.not_not.1 h4;have exy:x=y:=Fin.ext oM;refine Ar.o ?_;refine ⟨i+1,⟨oM,fun j hj=>?_⟩,zi [(0,some 0),(1,some 1)],by dsimp only;omega⟩
  by_cases e:j=i
  ·subst e;rw [hx,hy,exy]
  ·exact hs j oM
theorem zqL(a b:BR)(ha:a.len<=100000000):ze Tryz.prog 122 [.agg (brE a),.agg (brE b)] [] (pr (a=b)) []:=by
 have h1:a.num.mag.length<=a.len:=Nat.le_max_left _ _;have h2:a.den.mag.length<=a.len:=Nat.le_max_right _ _;refine zd tok mix Tryz.func122 rfl rfl rfl ?_;refine zb.t (zfh a.num b.num oM) ?_;refine Br.mk (fun e1=>?_) (fun e1=>zc fun e=>e1 (by rw [e]));refine zb.t (zfh a.den b.den oM) ?_;refine zu ⟨fun e2=>?_,fun e=>by rw [e]⟩
 cases a;cases b;simp_all
theorem zkE(xs ys:List BR)(hx:∀x∈xs,x.len<=100000000):ze Tryz.prog 74 [.sl brE xs,.sl brE ys] [] (pr (xs=ys)) []:=by
 refine zd tok mix Tryz.func74 rfl rfl rfl ?_;intro hl1 hl2;refine Br.mk (fun h1=>zc fun e=>h1 (by rw [e])) (fun h1=>?_);have h1:=Decidable.not_not.1 h1;refine ⟨Nat,fun i=>⟨[(5,i64 i),(0,.sl brE xs),(1,.sl brE ys)],[],0,27,0⟩,fun i=>i<=xs.length/\∀j,j < i->xs[j]? =ys[j]?,fun i=>xs.length - i,0,⟨Nat.zero_le _,fun j h=>by omega⟩,?_,?_⟩
 ·exact zi []
 rintro i ⟨hi,hs⟩
 intro hl3;refine Br.mk (fun h3=>?_) (fun h3=>?_)
 ·refine Dr.k ?_;refine Ob.o ?_;intro x hx1;have hx1:xs[i]? =some x:=hx1;refine Ob.o ?_;intro y hy;have hy:ys[i]? =some y:=hy;refine zb.t (zqL x y (hx x (List.mem_of_getElem? hx1))) ?_;refine Br.mk (fun h4=>zc fun e=>?_) (fun h4=>?_)
  ·subst e;rw [hx1] at hy;cases hy;exact h4 rfl
  ·have exy:=Decidable.not_not.1 h4;refine Ar.o ?_;refine ⟨i+1,⟨oM,fun j hj=>?_⟩,zi [],by dsimp only;omega⟩
   by_cases e:j=i
   ·subst e;rw [hx1,hy,exy]
   ·exact hs j oM
 ·refine zH (List.ext_getElem? fun j=>?_)
  by_cases hj:j < i
  ·exact hs j hj
  ·rw [List.getElem?_eq_none oM,List.getElem?_eq_none oM]
theorem zbs{x y:Rat}(h:ofQ x=ofQ y):x=y:=by rw [← zN x,← zN y,h]
theorem zmN{t:AF}{n:Nat}(h:t.le n):∀x∈y2 t,x.len<=n:=fun x hx=>by
 obtain ⟨h1,h2,h3,h4,h5,h6⟩:=h;simp only [y2,List.mem_cons,List.not_mem_nil,or_false] at hx
 rcases hx with rfl | rfl | rfl | rfl | rfl | rfl <;> assumption
theorem zkF(t u:AF)(ht:t.le 100000000):ze Tryz.prog 35 [.agg (afE t),.agg (afE u)] [] (pr (y2 t=y2 u)) []:=by
 refine zd tok mix Tryz.func35 rfl rfl rfl ?_;refine Dr.k ?_;refine zb.t (zdm t) ?_;refine zb.t (zdm u) ?_;refine zb.t (zkE (y2 t) (y2 u) (zmN ht)) ?_;exact zu Iff.rfl
theorem zbJ(t:AF)(ht:t.le 100000000):ze Tryz.prog 36 [.agg (afE t)] [] (.agg (afE t.nrm)) []:=by
 obtain ⟨ha,hb,hc,hd,he,hf⟩:=ht;refine zd tok mix Tryz.func36 rfl rfl rfl ?_;refine Dr.k ?_;refine zb.t (zU t.a oM) ?_;refine zb.t (zU t.b oM) ?_;refine zb.t (zU t.c oM) ?_;refine zb.t (zU t.d oM) ?_;refine zb.t (zU t.e oM) ?_;refine zb.t (zU t.f oM) ?_;exact .refl
theorem zoI{t u:AF}:y2 t.nrm=y2 u.nrm↔t.same u:=by
 constructor
 ·intro h;simp only [y2,AF.nrm,List.cons.injEq,and_true] at h;exact ⟨zbs h.1,zbs h.2.1,zbs h.2.2.1,zbs h.2.2.2.1,zbs h.2.2.2.2.1,zbs h.2.2.2.2.2⟩
 ·rintro ⟨h1,h2,h3,h4,h5,h6⟩
  simp only [y2,AF.nrm,h1,h2,h3,h4,h5,h6]
theorem zdn(t u:AF)(ht:t.le 10000000)(hu:u.le 10000000):ze Tryz.prog 11 [.agg (afE t),.agg (afE u)] [] (pr (t.same u)) []:=by
 have hn:=AF.le_len ht;obtain ⟨ha,hb,hc,hd,he,hf⟩:=ht;obtain ⟨ka,kb,kc,kd,ke,kf⟩:=hu;obtain ⟨na,nb,nc,nd,ne,nf⟩:=hn;refine zd tok mix Tryz.func11 rfl rfl rfl ?_;refine Dr.k ?_;refine zb.t (zbJ t ⟨oM,oM,oM,oM,oM,oM⟩) ?_;refine zb.t (zbJ u ⟨oM,oM,oM,oM,oM,oM⟩) ?_;refine zb.t (zkF t.nrm u.nrm ⟨oM,oM,oM,oM,oM,oM⟩) ?_;exact zu zoI
theorem zlJ(t:AF)(ht:t.le 10000000):ze Tryz.prog 95 [.agg (afE t)] [] (.agg (brE (ofQ (qH t)))) []:=by
 obtain ⟨ha,hb,hc,hd,he,hf⟩:=ht;have l1:=zt t.a;have l2:=zt t.b;have l3:=zt t.c;have l4:=zt t.d;have m1:=qr t.a.v t.d.v;have m2:=qr t.b.v t.c.v;refine zd tok mix Tryz.func95 rfl rfl rfl ?_;refine Dr.k ?_;refine zb.t (zhN t.a t.d oM oM) ?_;refine zb.t (zhN t.b t.c oM oM) ?_;refine zb.t (zsM (ofQ (t.a.v*t.d.v)) (ofQ (t.b.v*t.c.v)) (by rw [zo];omega) (by rw [zo];omega)) ?_;rw [zN,zN];exact .refl
theorem zuA(a b:BR)(ha:a.len<=50000000)(hb:b.len<=50000000)(h0:b.v≠0):ze Tryz.prog 150 [.agg (brE a),.agg (brE b)] [] (.tup [.agg (brE (ofQ (a.v / b.v))),i64 0]) []:=by
 have h1:=zt a;have h2:=zt b;have h3:=yL a.v;have h4:=yL b.v;have n1:=kj a.v;have n2:=kj b.v;have d1:=ku a.v;have d2:=ku b.v;have m1:=zZ a.v.num b.v.den;have m3:=zZ a.v.den b.v.num;refine zd tok mix Tryz.func150 rfl rfl rfl ?_;refine Dr.k ?_;refine zb.t (zU a oM) ?_;refine zb.t (zU b oM) ?_;refine Dr.k ?_;refine zb.t (zbY (ofQ a.v).num (ofQ b.v).den oM oM) ?_;refine zb.t (zbY (ofQ a.v).den (ofQ b.v).num oM oM) ?_;rw [qt,qt,qm,qm]
 refine zb.to _ (zue (ofZ (a.v.num*b.v.den)) (ofZ (a.v.den*b.v.num)) (by rw [zB];omega) (by rw [zB];omega) (by
  rw [zJ];exact Int.mul_ne_zero (zaJ _) (fun h=>h0 (Rat.num_eq_zero.1 h)))) rfl ?_
 rw [zJ,zJ,zje];exact .refl
theorem zjf(t u:AF)(ht:t.le 1000000)(hu:u.le 1000000):ze Tryz.prog 73 [.agg (afE t),.agg (afE u)] [] (.agg (afE (beh t u))) []:=by
 obtain ⟨ha,hb,hc,hd,he,hf⟩:=ht;obtain ⟨ka,kb,kc,kd,ke,kf⟩:=hu;have m5:=kK u.a t.e u.c t.f u.e ka he kc hf ke;have m6:=kK u.b t.e u.d t.f u.f kb he kd hf kf;refine zd tok mix Tryz.func73 rfl rfl rfl ?_;refine Dr.k ?_;refine zb.t (zbr u.a t.a u.c t.b oM oM oM oM) ?_;refine zb.t (zbr u.b t.a u.d t.b oM oM oM oM) ?_;refine zb.t (zbr u.a t.c u.c t.d oM oM oM oM) ?_;refine zb.t (zbr u.b t.c u.d t.d oM oM oM oM) ?_;refine zb.t (zbr u.a t.e u.c t.f oM oM oM oM) ?_;refine zb.t (zhM (ofQ (u.a.v*t.e.v+u.c.v*t.f.v)) u.e (by rw [zo];omega) oM) ?_
 refine zb.t (zbr u.b t.e u.d t.f oM oM oM oM) ?_;refine zb.t (zhM (ofQ (u.b.v*t.e.v+u.d.v*t.f.v)) u.f (by rw [zo];omega) oM) ?_;rw [zN,zN];exact .refl
def zBR:BR:=⟨⟨false,[]⟩,⟨false,[]⟩⟩
def kw:AF:=⟨zBR,zBR,zBR,zBR,zBR,zBR⟩
theorem zt3:zBR.v=0:=by decide +kernel
theorem qh:LEs [bl false,.val (.slice none 0 0),bl false,.val (.slice none 0 0)] (brE zBR):=
 .cons (zc dC) (.cons zI (.cons (zc dC) (.cons zI .nil)))
theorem LEs.append:∀{xs bs cs ds:List SV},LEs xs bs->LEs cs ds->LEs (xs++cs) (bs++ds)
 | [],[],_,_,_,h=>h
 | _::_,_::_,_,_,.cons h hs,k=>.cons h (LEs.append hs k)
def z4:List SV:=[bl false,.val (.slice none 0 0),bl false,.val (.slice none 0 0)]
theorem uf:LE (.agg jb) (.agg (afE kw)):=by
 have qh:LEs z4 (brE zBR):=qh;have h:LE (.agg (z4++(z4++(z4++(z4++(z4++z4)))))) (.agg (afE kw)):=zuI (LEs.append qh (LEs.append qh (LEs.append qh (LEs.append qh (LEs.append qh qh)))));exact h
def idA:AF:=afQ ((1:Int):Rat) ((0:Int):Rat) ((0:Int):Rat) ((1:Int):Rat) ((0:Int):Rat) ((0:Int):Rat)
theorem zhP:idA.le 2:=⟨by decide +kernel,by decide +kernel,by decide +kernel,by decide +kernel,by decide +kernel,by decide +kernel⟩
theorem zhQ(t u:AF):(beh t u).nrm=beh t u:=by
 unfold beh AF.nrm afQ;simp only [zN]
theorem zmO{t u:AF}(h:(beh t u).ok):(beh t u).le 8:=by
 have:=ok_le (t:=beh t u) (by rw [zhQ];exact h)
 rwa [zhQ] at this
theorem AF.le.up{t:AF}{n m:Nat}(h:t.le n)(k:n<=m):t.le m:=by
 obtain ⟨h1,h2,h3,h4,h5,h6⟩:=h;exact ⟨oM,oM,oM,oM,oM,oM⟩
theorem zcA(a b c d:Int)(e f:BR)(ha:R64 a)(hb:R64 b)(hc:R64 c)(hd:R64 d)(he:e.len<=100000000)(hf:f.len<=100000000):
  ze Tryz.prog 105 [i64 a,i64 b,i64 c,i64 d,.agg (brE e),.agg (brE f)] [] (.agg (afE (afQ a b c d e.v f.v))) []:=by
 refine zd tok mix Tryz.func105 rfl rfl rfl ?_;refine Dr.k ?_;refine zb.t (qg a ha) ?_;refine zb.t (qg b hb) ?_;refine zb.t (qg c hc) ?_;refine zb.t (qg d hd) ?_;refine zb.t (zU e oM) ?_;refine zb.t (zU f oM) ?_;exact .refl
theorem zoJ:zBR.v=((0:Int):Rat):=by decide +kernel
theorem zcB:ze Tryz.prog 56 [] [] (.agg (afE idA)) []:=by
 refine zd tok mix Tryz.func56 rfl rfl rfl ?_
 refine zb.to _ ((zcA 1 0 0 1 zBR zBR dC dC dC dC dC dC).args
  (.cons .refl (.cons .refl (.cons .refl (.cons .refl (.cons (zuI qh) (.cons (zuI qh) .nil))))))) rfl ?_
 rw [zoJ];exact .refl
def qI(n lo hi:Int):Int:=if n < lo then lo else if hi < n then hi else n
theorem zlK(n lo hi:Int):ze Tryz.prog 109 [i64 n,i64 lo,i64 hi] [] (i64 (qI n lo hi)) []:=by
 refine zd tok mix Tryz.func109 rfl rfl rfl ?_;refine Br.mk (fun h=>?_) (fun h=>?_)
 ·exact zm (by simp [qI,h])
 refine Br.mk (fun h2=>?_) (fun h2=>?_)
 ·exact zm (by simp [qI,h,h2])
 ·exact zm (by simp [qI,h,h2])
theorem zjg{n lo hi:Int}(_:lo<=hi):qI n lo hi=n↔lo<=n/\n<=hi:=by
 unfold qI;split <;> (try split) <;> omega
structure Pt where
 x:Int
 y:Int
 deriving DecidableEq
def ptE(p:Pt):List SV:=[i64 p.x,i64 p.y]
def zp:Pt:=⟨0,0⟩
def zP(p:Pt):Prop:=(-1048576<=p.x/\p.x<=1048576)/\(-1048576<=p.y/\p.y<=1048576)
instance (p:Pt):Decidable (zP p):=inferInstanceAs (Decidable (_/\_))
theorem jd{p q:Pt}:(p.x=q.x/\p.y=q.y/\True)↔p=q:=by
 cases p;cases q;simp
theorem zoK(n:Int):ze Tryz.prog 143 [i64 n] [] (i64 (qI n (-1048576) 1048576)) []:=by
 refine zd tok mix Tryz.func143 rfl rfl rfl ?_;refine zb.t (zlK n _ _) ?_;exact .refl
theorem zoL(p:Pt):ze Tryz.prog 88 [.agg (ptE p)] [] (.agg [i64 (qI p.x (-1048576) 1048576),i64 (qI p.y (-1048576) 1048576)]) []:=by
 refine zd tok mix Tryz.func88 rfl rfl rfl ?_;refine Dr.k ?_;refine zb.t (zoK p.x) ?_;refine zb.t (zoK p.y) ?_;exact .refl
theorem jG(p:Pt):ze Tryz.prog 42 [.agg (ptE p)] [] (pr (zP p)) []:=by
 refine zd tok mix Tryz.func42 rfl rfl rfl ?_;refine Dr.k ?_;refine zb.t (zoL p) ?_;refine zu (p:=qI p.x (-1048576) 1048576=p.x/\qI p.y (-1048576) 1048576=p.y/\True) ?_;rw [zjg dC,zjg dC];exact ⟨fun h=>⟨h.1,h.2.1⟩,fun h=>⟨h.1,h.2,trivial⟩⟩
theorem yy(p:Pt):ze Tryz.prog 46 [.agg (ptE p)] [] (pr (zP p)) []:=by
 refine zd tok mix Tryz.func46 rfl rfl rfl ?_;refine Br.mk (fun h1=>?_) (fun h1=>zc (fun h=>h1 h.1.1));refine Br.mk (fun h2=>?_) (fun h2=>zc (fun h=>h2 h.1.2));refine Br.mk (fun h3=>?_) (fun h3=>zc (fun h=>h3 h.2.1));exact zu ⟨fun h4=>⟨⟨h1,h2⟩,⟨h3,h4⟩⟩,fun h=>h.2.2⟩
def hI(n:Int):Int:=qI n (-1048576) 1048576
def zdI(p:Pt):Pt:=⟨hI p.x,hI p.y⟩
theorem zcC(n:Int): -1048576<=hI n/\hI n<=1048576:=by unfold hI qI;split <;> (try split) <;> omega
def vp(p q:Pt):Pt:=⟨p.x+q.x,p.y+q.y⟩
def zad(p q:Pt):Pt:=⟨p.x - q.x,p.y - q.y⟩
def subP(p q:Pt):Pt:=zad (zdI p) (zdI q)
def wdg(p q:Pt):Int:=p.x*q.y - p.y*q.x
def dtp(p q:Pt):Int:=p.x*q.x+p.y*q.y
def zsN(p q:Pt):Int:=wdg (zdI p) (zdI q)
def dotP(p q:Pt):Int:=dtp (zdI p) (zdI q)
theorem yn{a b A B:Int}(ha: -A<=a/\a<=A)(hb: -B<=b/\b<=B): -(A*B)<=a*b/\a*b<=A*B:=by
 have h1:=Int.mul_nonneg (show 0<=A - a by omega) (show 0<=B - b by omega);have h2:=Int.mul_nonneg (show 0<=A - a by omega) (show 0<=B+b by omega);have h3:=Int.mul_nonneg (show 0<=A+a by omega) (show 0<=B - b by omega);have h4:=Int.mul_nonneg (show 0<=A+a by omega) (show 0<=B+b by omega);have e1:(A - a)*(B - b)=A*B - A*b - a*B+a*b:=by grind
 have e2:(A - a)*(B+b)=A*B+A*b - a*B - a*b:=by grind
 have e3:(A+a)*(B - b)=A*B - A*b+a*B - a*b:=by grind
 have e4:(A+a)*(B+b)=A*B+A*b+a*B+a*b:=by grind
 omega
theorem zmP(x:Int):0<=x*x:=by
 rcases Int.le_total 0 x with h | h
 ·exact Int.mul_nonneg h h
 ·have:=Int.mul_nonneg (show 0<= -x by omega) (show 0<= -x by omega)
  rwa [Int.neg_mul_neg] at this
def sqL(n:Int):Nat->Int->Int
 | 0,s=>s
 | k+1,s=>sqL n k (if (s+2 ^ k)*(s+2 ^ k)<=n then s+2 ^ k else s)
def isq(n:Int):Int:=sqL n 32 0
def lenP(p:Pt):Int:=isq (65536*dotP p p)
def zcD(a b:Int):Int:=(2*a+b) / (2*b)
def zfi(a b:Pt)(n d:Int):Pt:=
 if d < 1∨1099511627776 < d then zdI a
 else ⟨hI a.x+jg (qI n 0 d*(hI b.x - hI a.x)) d,hI a.y+jg (qI n 0 d*(hI b.y - hI a.y)) d⟩
def zoM(r:List Pt):Prop:=(r.length:Int)<=4096/\∀p∈r,zP p
instance (r:List Pt):Decidable (zoM r):=inferInstanceAs (Decidable (_/\_))
def areaN(r:List Pt)(n:Nat):Int:=((List.range n).map fun i=>zsN (r.getD i zp) (r.getD ((i+1) % r.length) zp)).sum
def zrX(r:List Pt):Int:=if zoM r then areaN r r.length else 0
def turnR(r:List Pt):List Pt:=match r with
 | []=>[]
 | p::q=>p::q.reverse
def zcE(r:List Pt):List Pt:=if zrX r=0 then [] else if zrX r < 0 then turnR r else r
def jH(w:Int):Prop:=1<=w/\w<=16384
instance (w:Int):Decidable (jH w):=inferInstanceAs (Decidable (_/\_))
def farI(n:Int):Prop:=n < -2097152∨2097152 < n
instance (n:Int):Decidable (farI n):=inferInstanceAs (Decidable (_∨_))
def zhR(v:Pt)(w:Int):Pt:=
 if ¬jH w∨farI v.x∨farI v.y∨v=zp then zp
 else ⟨jg (-v.y*w*128) (isq (65536*(v.x*v.x+v.y*v.y))),jg (v.x*w*128) (isq (65536*(v.x*v.x+v.y*v.y)))⟩
def zrY(a b:Pt)(w:Int):List Pt:=
 if ¬(jH w/\zP a/\zP b) then []
 else zcE [zad a (zhR (zad b a) w),zad b (zhR (zad b a) w),vp b (zhR (zad b a) w),vp a (zhR (zad b a) w)]
def ways:List Pt:=[⟨16384,0⟩,⟨15137,6270⟩,⟨11585,11585⟩,⟨6270,15137⟩,⟨0,16384⟩,⟨-6270,15137⟩,⟨-11585,11585⟩,⟨-15137,6270⟩,
 ⟨-16384,0⟩,⟨-15137,-6270⟩,⟨-11585,-11585⟩,⟨-6270,-15137⟩,⟨0,-16384⟩,⟨6270,-15137⟩,⟨11585,-11585⟩,⟨15137,-6270⟩]
def zoN(p:Pt)(w:Int):List Pt:=
 if ¬(jH w/\zP p) then [] else zcE (ways.map fun q=>vp p ⟨jg (q.x*w) 32768,jg (q.y*w) 32768⟩)
def capR(a b:Pt)(w:Int):List Pt:=
 if ¬(jH w/\zP a/\zP b) then []
 else
  let n:=zhR (zad b a) w
  let e:Pt:=⟨n.y,-n.x⟩
  zcE [zad b n,vp (zad b n) e,vp (vp b n) e,vp b n]
def sdotR(p:Pt)(w:Int):List Pt:=
 if ¬(jH w/\zP p) then []
 else zcE [⟨p.x - jg w 2,p.y - jg w 2⟩,⟨p.x+jg w 2,p.y - jg w 2⟩,⟨p.x+jg w 2,p.y+jg w 2⟩,⟨p.x - jg w 2,p.y+jg w 2⟩]
structure Pen where
 w:Int
 j:Int
 c:Int
 m:Int
 d:List Int
 ph:Int
def zaL(l:List Int):Prop:=(∀n∈l,0<=n/\n<=1048576)/\(l=[]∨∃n∈l,0 < n)/\l.length % 2=0/\(l.length:Int)<=16
instance (l:List Int):Decidable (zaL l):=inferInstanceAs (Decidable (_/\_))
def yf(p:Pen):Prop:=jH p.w/\(p.j=1∨p.j=2∨p.j=3)/\(p.c=3∨p.c=4∨p.c=5)/\(256<=p.m/\p.m<=65536)/\zaL p.d/\(0<=p.ph/\p.ph<=1048576)
instance (p:Pen):Decidable (yf p):=inferInstanceAs (Decidable (_/\_))
def tipM(n m:Pt)(w lim:Int):Pt×Bool:=
 if ¬(zP n/\zP m/\jH w/\256<=lim/\lim<=65536) then (zp,false)
 else
  let s:=vp n m
  let q:=s.x*s.x+s.y*s.y
  if q=0∨lim*lim*q < 256*w*(256*w) then (zp,false) else (⟨jg (s.x*w*w) (2*q),jg (s.y*w*w) (2*q)⟩,true)
def negP(p:Pt):Pt:=⟨-p.x,-p.y⟩
def zkG(a v b:Pt)(w:Int):Pt×Pt×Bool:=
 if ¬(zP a/\zP v/\zP b/\jH w) then (zp,zp,false)
 else
  let x:=zad v a
  let y:=zad b v
  if wdg x y=0 then (zp,zp,false) else if 0 < wdg x y then (negP (zhR x w),negP (zhR y w),true) else (zhR x w,zhR y w,true)
def zfj(r:List Pt):List (List Pt):=if r=[] then [] else [r]
def joinR(a v b:Pt)(p:Pen):List (List Pt):=
 if ¬(yf p/\zP a/\zP v/\zP b/\¬v=a/\¬v=b) then []
 else if p.j=3 then zfj (zoN v p.w)
 else if (zkG a v b p.w).2.2=false then []
 else
  let n:=(zkG a v b p.w).1
  let m:=(zkG a v b p.w).2.1
  zfj (zcE (if p.j=1/\(tipM n m p.w p.m).2=true then [v,vp v n,vp v (tipM n m p.w p.m).1,vp v m] else [v,vp v n,vp v m]))
structure Sg where
 v:Int
 a:Pt
 b:Pt
 c:Pt
 deriving DecidableEq
def sgE(s:Sg):List SV:=[i64 s.v,i64 s.a.x,i64 s.a.y,i64 s.b.x,i64 s.b.y,i64 s.c.x,i64 s.c.y]
def nm(v:Int):Int:=if v=1 then 1 else if v=2 then 1 else if v=3 then 2 else if v=4 then 3 else if v=5 then 0 else -1
theorem c_named(v:Int):ze Tryz.prog 232 [i64 v] [] (i64 (nm v)) []:=by
 refine zd tok mix Tryz.func232 rfl rfl rfl ?_;refine Br.mk (fun h4=>?_) (fun h4=>?_)
 ·refine Ar.fit dC ?_;refine Ar.fit dC ?_;refine Ar.fit dC ?_;exact zm (by rw [h4];rfl)
 refine Br.mk (fun h3=>?_) (fun h3=>?_)
 ·refine Ar.fit dC ?_;refine Ar.fit dC ?_;exact zm (by rw [h3];rfl)
 refine Br.mk (fun h1=>?_) (fun h1=>?_)
 ·refine Br.mk (fun _=>?_) (fun h=>absurd h1 h);refine Ar.fit dC ?_;exact zm (by rw [h1];rfl)
 refine Br.mk (fun h2=>?_) (fun h2=>?_)
 ·refine Ar.fit dC ?_;exact zm (by rw [h2];rfl)
 refine Br.mk (fun h5=>?_) (fun h5=>?_)
 ·exact zm (by rw [h5];rfl)
 ·exact zm (by unfold nm;rw [if_neg h1,if_neg h2,if_neg h3,if_neg h4,if_neg h5])
def pk(n i:Int)(p:Pt):Prop:=zP p/\(n<=i->p=zp)
instance (n i:Int) (p:Pt):Decidable (pk n i p):=inferInstanceAs (Decidable (_/\_))
def zdV(s:Sg):Prop:=pk (nm s.v) 0 s.a/\pk (nm s.v) 1 s.b/\pk (nm s.v) 2 s.c
instance (s:Sg):Decidable (zdV s):=inferInstanceAs (Decidable (_/\_))
theorem zjh{s:Sg}:zdV s↔∀(j:Nat) x,[s.a,s.b,s.c][j]? =some x->pk (nm s.v) j x:=by
 constructor
 ·rintro ⟨h1,h2,h3⟩ j x hx
  match j,hx with
  | 0,hx=>cases hx;exact h1
  | 1,hx=>cases hx;exact h2
  | 2,hx=>cases hx;exact h3
 ·exact fun h=>⟨h 0 _ rfl,h 1 _ rfl,h 2 _ rfl⟩
theorem zkH(s:Sg):ze Tryz.prog 281 [.agg (sgE s)] [] (pr (zdV s)) []:=by
 refine zd tok mix Tryz.func281 rfl rfl rfl ?_;refine ⟨Pt,ptE,[s.a,s.b,s.c],rfl,Ob.o0 ?_⟩;intro _
 refine ⟨Nat,fun i=>⟨[(13,i64 i),(12,i64 3),(11,.own 1),(1,.loc 0 0)],[(1,.arr 46 ptE 2 [s.a,s.b,s.c]),(0,.box 141 (sgE s))],2,34,0⟩,
  fun i=>i<=3/\∀(j:Nat) x,j < i->[s.a,s.b,s.c][j]? =some x->pk (nm s.v) j x,fun i=>3 - i,0,?_,?_,?_⟩
 ·exact ⟨oM,fun j x hj=>by omega⟩
 ·exact zi [(0,some 0),(1,some 1)]
 rintro i ⟨h1,h2⟩
 refine Br.mk (fun h3=>?_) (fun h3=>?_)
 ·have h3:i < 3:=by omega
  refine Ob.mk ⟨oM,by show (i:Int) < 3;omega⟩ ?_;refine Ob.mk ⟨oM,by show (i:Int) < 3;omega⟩ ?_;intro x hx;have hx:[s.a,s.b,s.c][i]? =some x:=hx;refine zb.t (jG x) ?_;have out:¬pk (nm s.v) i x->¬zdV s:=fun h hf=>h (zjh.1 hf i x hx)
  refine Br.mk (fun h4=>zc (out fun h=>h4 h.1)) (fun h4=>?_);have h4:=Decidable.not_not.1 h4;refine zb.t (c_named s.v) ?_
  have next:pk (nm s.v) i x->(i+1<=3/\∀(j:Nat) x,j < i+1->[s.a,s.b,s.c][j]? =some x->pk (nm s.v) j x):=fun h=>⟨oM,fun j y hj hy=>by
   by_cases e:j=i
   ·subst e;rw [hx] at hy;cases hy;exact h
   ·exact h2 j y oM hy⟩
  refine Br.mk (fun h5=>?_) (fun h5=>?_)
  ·refine Br.mk (fun h6=>zc (out fun h=>h6 (jd.2 (h.2 h5)))) (fun h6=>?_);have h6:x=zp:=jd.1 (Decidable.not_not.1 h6);refine Ar.o ?_;exact ⟨i+1,next ⟨h4,fun _=>h6⟩,zi [(0,some 0),(1,some 1)],by dsimp only;omega⟩
  ·refine Ar.o ?_;exact ⟨i+1,next ⟨h4,fun h=>absurd h h5⟩,zi [(0,some 0),(1,some 1)],by dsimp only;omega⟩
 ·refine zH (zjh.2 fun j x hx=>h2 j x ?_ hx);have:=(List.getElem?_eq_some_iff.1 hx).1;have h3:¬((i:Int) < 3):=h3;simp at this;omega
def u6(last v:Int):Prop:=v=1∨(last≠5/\(v≠5∨last≠1))
instance (last v:Int):Decidable (u6 last v):=inferInstanceAs (Decidable (_∨_))
def qi(last:Int)(s:Sg):Int:=if nm s.v < 0 then 2 else if ¬u6 last s.v then 10 else if ¬zdV s then 6 else 0
def chk(last:Int)(i:Nat):List Sg->Int×Int
 | []=>(0,0)
 | s::r=>if qi last s≠0 then (qi last s,i) else chk s.v (i+1) r
def yN(l:List Sg):Int×Int:=if 256 < l.length then (5,256) else chk 5 0 l
def kY(l:List Sg):Prop:=(yN l).1=0
instance (l:List Sg):Decidable (kY l):=inferInstanceAs (Decidable (_=_))
theorem zhS{α:Type}{l:List α}{i:Nat}{x:α}(h:l[i]? =some x):l.drop i=x::l.drop (i+1):=by
 obtain ⟨hl,he⟩:=List.getElem?_eq_some_iff.1 h;rw [List.drop_eq_getElem_cons hl,he]
def twoI(c:Int×Int):SV:=.tup [i64 c.1,i64 c.2]
theorem zqM(l:List Sg):ze Tryz.prog 231 [.sl sgE l] [] (twoI (yN l)) []:=by
 refine zd tok mix Tryz.func231 rfl rfl rfl ?_;have fin:∀{a b:Int},yN l=(a,b)->LE (.tup [i64 a,i64 b]) (twoI (yN l)):=fun h=>by rw [h];exact .refl
 intro hl;refine Br.mk (fun h=>fin (by unfold yN;rw [if_pos oM])) (fun h=>?_);have hc:yN l=chk 5 0 l:=by unfold yN;rw [if_neg oM]
 intro hl1;refine ⟨Nat×Int,fun q=>⟨[(13,i64 q.1),(12,i64 l.length),(11,.sl sgE l),(4,i64 q.2)],[],0,52,0⟩,fun q=>q.1<=l.length/\chk 5 0 l=chk q.2 q.1 (l.drop q.1),fun q=>l.length - q.1,(0,5),?_,?_,?_⟩
 ·exact ⟨Nat.zero_le _,rfl⟩
 ·exact zi []
 rintro ⟨i,last⟩ ⟨h1,h2⟩
 have h1:i<=l.length:=h1;have h2:chk 5 0 l=chk last i (l.drop i):=h2;refine Br.mk (fun h3=>?_) (fun h3=>?_)
 ·have h3:(i:Int) < l.length:=h3;refine Ob.mk ⟨by dsimp only;omega,h3⟩ ?_;intro x hx;have hx:l[i]? =some x:=hx;rw [zhS hx] at h2
  have bad:∀{e:Int},qi last x=e->e≠0->yN l=(e,(i:Int)):=fun h hn=>by
   rw [hc,h2];unfold chk;rw [if_pos (by rw [h];exact hn),h]
  have good:qi last x=0->(i+1,x.v).1<=l.length/\chk 5 0 l=chk (i+1,x.v).2 (i+1,x.v).1 (l.drop (i+1,x.v).1):=fun h=>⟨by show i+1<=_;omega,by
   show _=chk x.v (i+1) _;rw [h2];conv=>lhs;unfold chk
   rw [if_neg (fun hn=>hn h)]⟩
  refine Br.mk (fun j1=>?_) (fun j1=>?_)
  ·have st:u6 last x.v:=.inl j1;refine zb.t (c_named x.v) ?_;refine Br.mk (fun k1=>fin (bad (by unfold qi;rw [if_pos k1]) dC)) (fun k1=>?_);refine zb.t (zkH x) ?_;refine Br.mk (fun k2=>fin (bad (by unfold qi;rw [if_neg k1,if_neg (fun h=>h st),if_pos k2]) dC)) (fun k2=>?_);refine Ar.fit (by dsimp only;omega) ?_;exact ⟨(i+1,x.v),good (by unfold qi;rw [if_neg k1,if_neg (fun h=>h st),if_neg k2]),zi [],by show l.length - (i+1) < l.length - i;omega⟩
  refine Br.mk (fun j2=>?_) (fun j2=>?_)
  ·refine Br.mk (fun j3=>?_) (fun j3=>?_)
   ·have st:u6 last x.v:=.inr ⟨j2,.inl j3⟩;refine zb.t (c_named x.v) ?_;refine Br.mk (fun k1=>fin (bad (by unfold qi;rw [if_pos k1]) dC)) (fun k1=>?_);refine zb.t (zkH x) ?_;refine Br.mk (fun k2=>fin (bad (by unfold qi;rw [if_neg k1,if_neg (fun h=>h st),if_pos k2]) dC)) (fun k2=>?_);refine Ar.fit (by dsimp only;omega) ?_;exact ⟨(i+1,x.v),good (by unfold qi;rw [if_neg k1,if_neg (fun h=>h st),if_neg k2]),zi [],by show l.length - (i+1) < l.length - i;omega⟩
   ·refine zb.t (c_named x.v) ?_;refine Br.mk (fun k1=>fin (bad (by unfold qi;rw [if_pos k1]) dC)) (fun k1=>?_);have j3:=Decidable.not_not.1 j3
    have ns:¬last≠1->¬u6 last x.v:=fun k0 st=>by
     rcases st with st | ⟨_,st | st⟩
     ·exact j1 st
     ·exact st j3
     ·exact k0 st
    refine Br.mk (fun k0=>fin (bad (by unfold qi;rw [if_neg k1,if_pos (ns k0)]) dC)) (fun k0=>?_);have st:u6 last x.v:=.inr ⟨j2,.inr (Decidable.not_not.1 k0)⟩;refine zb.t (zkH x) ?_;refine Br.mk (fun k2=>fin (bad (by unfold qi;rw [if_neg k1,if_neg (fun h=>h st),if_pos k2]) dC)) (fun k2=>?_);refine Ar.fit (by dsimp only;omega) ?_;exact ⟨(i+1,x.v),good (by unfold qi;rw [if_neg k1,if_neg (fun h=>h st),if_neg k2]),zi [],by show l.length - (i+1) < l.length - i;omega⟩
  ·refine zb.t (c_named x.v) ?_;refine Br.mk (fun k1=>fin (bad (by unfold qi;rw [if_pos k1]) dC)) (fun k1=>?_)
   have ns:¬u6 last x.v:=fun st=>by
    rcases st with st | ⟨st,_⟩
    ·exact j1 st
    ·exact j2 st
   exact fin (bad (by unfold qi;rw [if_neg k1,if_pos ns]) dC)
 ·refine fin (hc.trans (h2.trans ?_));rw [List.drop_eq_nil_of_le (by have h3:¬(i:Int) < l.length:=h3;omega)];rfl
theorem zea(l:List Sg):ze Tryz.prog 174 [.sl sgE l] [] (pr (kY l)) []:=by
 refine zd tok mix Tryz.func174 rfl rfl rfl ?_;refine zb.t (zqM l) ?_;exact zu Iff.rfl
end Go.Gs
