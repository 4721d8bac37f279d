/- The other text's transforms. -/
import Derived.Test.YtplllpkdmehklaaGreatDoorMA
import Derived.Test.YtplllpkdmehklaaGreatDoorMAX
import Derived.Test.YtplllpkdmehklaaGreatDoorMAQ
import Derived.Test.YtplllpkdmehklaaGreatDoorMAT
set_option maxRecDepth 100000
set_option maxHeartbeats 8000000
set_option linter.all false
namespace Go.Gs
open Go.Proofs
def zab(t:AF):List BR:=[t.a,t.b,t.c,t.d,t.e,t.f]
theorem zvX{t:AF}{i:Nat}{x:BR}(h:(zab t)[i]? =some x):x=t.nth i:=by
 have:i < 6:=(List.getElem?_eq_some_iff.1 h).1;have e:i=0∨i=1∨i=2∨i=3∨i=4∨i=5:=oM
 rcases e with rfl | rfl | rfl | rfl | rfl | rfl <;> (cases h;rfl)
theorem zvY{t:AF}{n:Nat}(h:t.le n):∀i,(t.nth i).len<=n:=fun i=>by
 obtain ⟨h1,h2,h3,h4,h5,h6⟩:=h;unfold AF.nth;split <;> assumption
theorem zgv(t:AF):zd Tryz.prog 65 [.agg (afE t)] [] (.sl brE (zab t)) []:=by
 refine zc tok mix Tryz.func65 rfl rfl rfl ?_;refine ⟨BR,brE,zab t,rfl,Ob.o0 ?_⟩;exact .refl
theorem zdY(t:AF)(ht:t.le 100000000):zd Tryz.prog 35 [.agg (afE t)] [] (pr t.ok) []:=by
 refine zc tok mix Tryz.func35 rfl rfl rfl ?_;refine zb.t (zgv t) ?_;refine ⟨Nat,fun i=>⟨[(4,i64 i),(3,.sl brE (zab t))],[],1,19,0⟩,fun i=>i<=6/\okI t i,fun i=>6 - i,0,⟨Nat.zero_le _,trivial⟩,?_,?_⟩
 ·exact zf []
 rintro i ⟨h1,h2⟩
 intro hl;have hl6:(zab t).length=6:=rfl;refine Br.mk (fun h3=>?_) (fun h3=>?_)
 ·refine Ob.o4 ?_;intro x hx;have hx:(zab t)[i]? =some x:=hx;have hx:=zvX hx;subst hx;refine zb.t (ztp (t.nth i) (zvY ht i)) ?_;refine Br.mk (fun h4=>?_) (fun h4=>?_)
  ·refine ze fun h=>?_
   have e:i=0∨i=1∨i=2∨i=3∨i=4∨i=5:=oM;simp only [AF.ok,okI] at h
   rcases e with rfl | rfl | rfl | rfl | rfl | rfl <;> omega
  ·refine Ar.o ?_;exact ⟨i+1,⟨oM,h2,oM⟩,zf [],by dsimp only;omega⟩
 ·have:i=6:=by omega
  subst this;exact zP h2
theorem zdZ(a b c d:BR)(ha:a.len<=10000000)(hb:b.len<=10000000)(hc:c.len<=10000000)(hd:d.len<=10000000):
  zd Tryz.prog 67 [.agg (brE a),.agg (brE b),.agg (brE c),.agg (brE d)] [] (.agg (brE (ofQ (a.v*b.v+c.v*d.v)))) []:=by
 have l1:=zD a;have l2:=zD b;have l3:=zD c;have l4:=zD d;have m1:=jO a.v b.v;have m2:=jO c.v d.v;refine zc tok mix Tryz.func67 rfl rfl rfl ?_;refine Dr.k ?_;refine zb.t (zms a b oM oM) ?_;refine zb.t (zms c d oM oM) ?_;refine zb.t (zmr (ofQ (a.v*b.v)) (ofQ (c.v*d.v)) (by rw [zz];omega) (by rw [zz];omega)) ?_;rw [zV,zV];exact .refl
theorem zBo(a b:BI)(ha:a.mag.length<=800000000)(hb:b.mag.length<=800000000):zd Tryz.prog 61 [.agg (biE a),.agg (biE b)] [] (i64 (a.v - b.v).sign) []:=by
 refine zc tok mix Tryz.func61 rfl rfl rfl ?_;refine zb.t (zvW a b ha hb) ?_;have h1:=ziM a.v b.v;have h2:=vZ a;have h3:=vZ b;refine zb.t (zfs (ofZ (a.v - b.v)) (by rw [zM];omega)) ?_;rw [zZ];exact .refl
theorem zmt(a b:BR)(ha:a.len<=100000000)(hb:b.len<=100000000):zd Tryz.prog 29 [.agg (brE a),.agg (brE b)] [] (i64 (zgt a.v b.v)) []:=by
 have h1:=zD a;have h2:=zD b;have h3:=vJ a.v;have h4:=vJ b.v;have n1:=kR a.v;have n2:=kR b.v;have d1:=kY a.v;have d2:=kY b.v;have m1:=kC a.v.num b.v.den;have m2:=kC b.v.num a.v.den;refine zc tok mix Tryz.func29 rfl rfl rfl ?_;refine Dr.k ?_;refine zb.t (ku a oM) ?_;refine zb.t (ku b oM) ?_;refine Dr.k ?_;refine zb.t (zeH (ofQ a.v).num (ofQ b.v).den oM oM) ?_;refine zb.t (zeH (ofQ b.v).num (ofQ a.v).den oM oM) ?_;rw [jP,jP,jB,jB];refine zb.t (zBo (ofZ (a.v.num*b.v.den)) (ofZ (b.v.num*a.v.den)) (by rw [zM];omega) (by rw [zM];omega)) ?_;rw [zZ,zZ]
 exact .refl
theorem zyX(x:Rat):ofQ (-x)=⟨ofZ (-x.num),ofZ x.den⟩:=by unfold ofQ;rw [Rat.neg_num,Rat.neg_den]
theorem zBp(a:BR)(ha:a.len<=100000000):zd Tryz.prog 233 [.agg (brE a)] [] (.agg (brE (ofQ (-a.v)))) []:=by
 have h1:=zD a;have h3:=vJ a.v;refine zc tok mix Tryz.func233 rfl rfl rfl ?_;refine zb.t (ku a oM) ?_;refine Dr.k ?_;refine zb.t (zmq (ofQ a.v).num oM) ?_;rw [jP,zyX];exact .refl
theorem zBq(a b:BR)(ha:a.len<=40000000)(hb:b.len<=40000000):zd Tryz.prog 179 [.agg (brE a),.agg (brE b)] [] (.agg (brE (ofQ (a.v - b.v)))) []:=by
 have h2:=zD b;refine zc tok mix Tryz.func179 rfl rfl rfl ?_;refine Dr.k ?_;refine zb.t (zBp b oM) ?_;refine zb.t (zmr a (ofQ (-b.v)) oM (by rw [zz,vK];omega)) ?_;rw [zV,← Rat.sub_eq_add_neg];exact .refl
theorem bi_eq{a b:BI}{i:Nat}(h1:a.neg=true↔b.neg=true)(hl:a.mag.length=b.mag.length)(hi:¬i < a.mag.length)(h:∀j,j < i->a.mag[j]? =b.mag[j]?):a=b:=by
 obtain ⟨n,m⟩:=a;obtain ⟨n',m'⟩:=b;have e1:n=n':=Bool.eq_iff_iff.2 h1
 have e2:m=m':=List.ext_getElem? fun j=>by
  by_cases hj:j < i
  ·exact h j hj
  ·dsimp only at hl hi;rw [List.getElem?_eq_none oM,List.getElem?_eq_none oM]
 subst e1 e2;rfl
theorem ziZ(a b:BI)(ha:a.mag.length<=100000000):zd Tryz.prog 167 [.agg (biE a),.agg (biE b)] [] (pr (a=b)) []:=by
 refine zc tok mix Tryz.func167 rfl rfl rfl ?_;refine Br.mk (fun h1=>ze fun e=>h1 (by rw [e])) (fun h1=>?_);have h1:=Decidable.not_not.1 h1;intro hl1 hl2;refine Br.mk (fun h2=>ze fun e=>h2 (by rw [e])) (fun h2=>?_);have h2:=Decidable.not_not.1 h2;refine ⟨Nat,fun i=>⟨[(5,i64 i),(3,.loc 1 0),(2,.loc 0 0)],[(1,.box 35 (biE b)),(0,.box 35 (biE a))],2,38,0⟩,fun i=>i<=a.mag.length/\∀j,j < i->a.mag[j]? =b.mag[j]?,fun i=>a.mag.length - i,0,⟨Nat.zero_le _,fun j h=>by omega⟩,?_,?_⟩
 ·exact zf [(0,some 0),(1,some 1)]
 rintro i ⟨hi,hs⟩
 intro hl3;refine Br.mk (fun h3=>?_) (fun h3=>zP (bi_eq h1 oM oM hs));refine Dr.k ?_;refine Ob.o ?_;intro x hx;have hx:a.mag[i]? =some x:=hx;refine Ob.o ?_;intro y hy;have hy:b.mag[i]? =some y:=hy;refine Br.mk (fun h4=>ze fun e=>?_) (fun h4=>?_)
 ·subst e;rw [hx] at hy;cases hy;exact h4 rfl
 ·have h4:=Decidable.not_not.1 h4;have exy:x=y:=Fin.ext oM;refine Ar.o ?_;refine ⟨i+1,⟨oM,fun j hj=>?_⟩,zf [(0,some 0),(1,some 1)],by dsimp only;omega⟩
  by_cases e:j=i
  ·subst e;rw [hx,hy,exy]
  ·exact hs j oM
theorem zyY(a b:BR)(ha:a.len<=100000000):zd Tryz.prog 122 [.agg (brE a),.agg (brE b)] [] (pr (a=b)) []:=by
 have h1:a.num.mag.length<=a.len:=Nat.le_max_left _ _;have h2:a.den.mag.length<=a.len:=Nat.le_max_right _ _;refine zc tok mix Tryz.func122 rfl rfl rfl ?_;refine zb.t (ziZ a.num b.num oM) ?_;refine Br.mk (fun e1=>?_) (fun e1=>ze fun e=>e1 (by rw [e]));refine zb.t (ziZ a.den b.den oM) ?_;refine zF ⟨fun e2=>?_,fun e=>by rw [e]⟩
 cases a;cases b;simp_all
theorem zqj(xs ys:List BR)(hx:∀x∈xs,x.len<=100000000):zd Tryz.prog 81 [.sl brE xs,.sl brE ys] [] (pr (xs=ys)) []:=by
 refine zc tok mix Tryz.func81 rfl rfl rfl ?_;intro hl1 hl2;refine Br.mk (fun h1=>ze fun e=>h1 (by rw [e])) (fun h1=>?_);have h1:=Decidable.not_not.1 h1;refine ⟨Nat,fun i=>⟨[(5,i64 i),(0,.sl brE xs),(1,.sl brE ys)],[],0,27,0⟩,fun i=>i<=xs.length/\∀j,j < i->xs[j]? =ys[j]?,fun i=>xs.length - i,0,⟨Nat.zero_le _,fun j h=>by omega⟩,?_,?_⟩
 ·exact zf []
 rintro i ⟨hi,hs⟩
 intro hl3;refine Br.mk (fun h3=>?_) (fun h3=>?_)
 ·refine Dr.k ?_;refine Ob.o ?_;intro x hx1;have hx1:xs[i]? =some x:=hx1;refine Ob.o ?_;intro y hy;have hy:ys[i]? =some y:=hy;refine zb.t (zyY x y (hx x (List.mem_of_getElem? hx1))) ?_;refine Br.mk (fun h4=>ze fun e=>?_) (fun h4=>?_)
  ·subst e;rw [hx1] at hy;cases hy;exact h4 rfl
  ·have exy:=Decidable.not_not.1 h4;refine Ar.o ?_;refine ⟨i+1,⟨oM,fun j hj=>?_⟩,zf [],by dsimp only;omega⟩
   by_cases e:j=i
   ·subst e;rw [hx1,hy,exy]
   ·exact hs j oM
 ·refine zP (List.ext_getElem? fun j=>?_)
  by_cases hj:j < i
  ·exact hs j hj
  ·rw [List.getElem?_eq_none oM,List.getElem?_eq_none oM]
theorem zd0{x y:Rat}(h:ofQ x=ofQ y):x=y:=by rw [← zV x,← zV y,h]
theorem ztq{t:AF}{n:Nat}(h:t.le n):∀x∈zab t,x.len<=n:=fun x hx=>by
 obtain ⟨h1,h2,h3,h4,h5,h6⟩:=h;simp only [zab,List.mem_cons,List.not_mem_nil,or_false] at hx
 rcases hx with rfl | rfl | rfl | rfl | rfl | rfl <;> assumption
theorem zqk(t u:AF)(ht:t.le 100000000):zd Tryz.prog 46 [.agg (afE t),.agg (afE u)] [] (pr (zab t=zab u)) []:=by
 refine zc tok mix Tryz.func46 rfl rfl rfl ?_;refine Dr.k ?_;refine zb.t (zgv t) ?_;refine zb.t (zgv u) ?_;refine zb.t (zqj (zab t) (zab u) (ztq ht)) ?_;exact zF Iff.rfl
theorem zer(t:AF)(ht:t.le 100000000):zd Tryz.prog 47 [.agg (afE t)] [] (.agg (afE t.nrm)) []:=by
 obtain ⟨ha,hb,hc,hd,he,hf⟩:=ht;refine zc tok mix Tryz.func47 rfl rfl rfl ?_;refine Dr.k ?_;refine zb.t (ku t.a oM) ?_;refine zb.t (ku t.b oM) ?_;refine zb.t (ku t.c oM) ?_;refine zb.t (ku t.d oM) ?_;refine zb.t (ku t.e oM) ?_;refine zb.t (ku t.f oM) ?_;exact .refl
theorem zvZ{t u:AF}:zab t.nrm=zab u.nrm↔t.same u:=by
 constructor
 ·intro h;simp only [zab,AF.nrm,List.cons.injEq,and_true] at h;exact ⟨zd0 h.1,zd0 h.2.1,zd0 h.2.2.1,zd0 h.2.2.2.1,zd0 h.2.2.2.2.1,zd0 h.2.2.2.2.2⟩
 ·rintro ⟨h1,h2,h3,h4,h5,h6⟩
  simp only [zab,AF.nrm,h1,h2,h3,h4,h5,h6]
theorem zd1(t u:AF)(ht:t.le 10000000)(hu:u.le 10000000):zd Tryz.prog 20 [.agg (afE t),.agg (afE u)] [] (pr (t.same u)) []:=by
 have hn:=AF.le_len ht;obtain ⟨ha,hb,hc,hd,he,hf⟩:=ht;obtain ⟨ka,kb,kc,kd,ke,kf⟩:=hu;obtain ⟨na,nb,nc,nd,ne,nf⟩:=hn;refine zc tok mix Tryz.func20 rfl rfl rfl ?_;refine Dr.k ?_;refine zb.t (zer t ⟨oM,oM,oM,oM,oM,oM⟩) ?_;refine zb.t (zer u ⟨oM,oM,oM,oM,oM,oM⟩) ?_;refine zb.t (zqk t.nrm u.nrm ⟨oM,oM,oM,oM,oM,oM⟩) ?_;exact zF zvZ
theorem zrP(t:AF)(ht:t.le 10000000):zd Tryz.prog 132 [.agg (afE t)] [] (.agg (brE (ofQ (yf t)))) []:=by
 obtain ⟨ha,hb,hc,hd,he,hf⟩:=ht;have l1:=zD t.a;have l2:=zD t.b;have l3:=zD t.c;have l4:=zD t.d;have m1:=jO t.a.v t.d.v;have m2:=jO t.b.v t.c.v;refine zc tok mix Tryz.func132 rfl rfl rfl ?_;refine Dr.k ?_;refine zb.t (zms t.a t.d oM oM) ?_;refine zb.t (zms t.b t.c oM oM) ?_;refine zb.t (zBq (ofQ (t.a.v*t.d.v)) (ofQ (t.b.v*t.c.v)) (by rw [zz];omega) (by rw [zz];omega)) ?_;rw [zV,zV];exact .refl
theorem zoe(t u:AF)(ht:t.le 1000000)(hu:u.le 1000000):zd Tryz.prog 36 [.agg (afE t),.agg (afE u)] [] (.agg (afE (beh t u))) []:=by
 obtain ⟨ha,hb,hc,hd,he,hf⟩:=ht;obtain ⟨ka,kb,kc,kd,ke,kf⟩:=hu;have m5:=qF u.a t.e u.c t.f u.e ka he kc hf ke;have m6:=qF u.b t.e u.d t.f u.f kb he kd hf kf;refine zc tok mix Tryz.func36 rfl rfl rfl ?_;refine Dr.k ?_;refine zb.t (zdZ u.a t.a u.c t.b oM oM oM oM) ?_;refine zb.t (zdZ u.b t.a u.d t.b oM oM oM oM) ?_;refine zb.t (zdZ u.a t.c u.c t.d oM oM oM oM) ?_;refine zb.t (zdZ u.b t.c u.d t.d oM oM oM oM) ?_;refine zb.t (zdZ u.a t.e u.c t.f oM oM oM oM) ?_;refine zb.t (zmr (ofQ (u.a.v*t.e.v+u.c.v*t.f.v)) u.e (by rw [zz];omega) oM) ?_
 refine zb.t (zdZ u.b t.e u.d t.f oM oM oM oM) ?_;refine zb.t (zmr (ofQ (u.b.v*t.e.v+u.d.v*t.f.v)) u.f (by rw [zz];omega) oM) ?_;rw [zV,zV];exact .refl
def zBR:BR:=⟨⟨false,[]⟩,⟨false,[]⟩⟩
def k7:AF:=⟨zBR,zBR,zBR,zBR,zBR,zBR⟩
theorem zBR_v:zBR.v=0:=by decide +kernel
theorem jw:LEs [bl false,.val (.slice none 0 0),bl false,.val (.slice none 0 0)] (brE zBR):=
 .cons (ze dC) (.cons zC (.cons (ze dC) (.cons zC .nil)))
theorem LEs.append:∀{xs bs cs ds:List SV},LEs xs bs->LEs cs ds->LEs (xs++cs) (bs++ds)
 | [],[],_,_,_,h=>h
 | _::_,_::_,_,_,.cons h hs,k=>.cons h (LEs.append hs k)
def z4:List SV:=[bl false,.val (.slice none 0 0),bl false,.val (.slice none 0 0)]
theorem zal:LE (.agg yL) (.agg (afE k7)):=by
 have jw:LEs z4 (brE zBR):=jw;have h:LE (.agg (z4++(z4++(z4++(z4++(z4++z4)))))) (.agg (afE k7)):=qK (LEs.append jw (LEs.append jw (LEs.append jw (LEs.append jw (LEs.append jw jw)))));exact h
def idA:AF:=afQ ((1:Int):Rat) ((0:Int):Rat) ((0:Int):Rat) ((1:Int):Rat) ((0:Int):Rat) ((0:Int):Rat)
theorem zmu:idA.le 2:=⟨by decide +kernel,by decide +kernel,by decide +kernel,by decide +kernel,by decide +kernel,by decide +kernel⟩
theorem zmv(t u:AF):(beh t u).nrm=beh t u:=by
 unfold beh AF.nrm afQ;simp only [zV]
theorem ztr{t u:AF}(h:(beh t u).ok):(beh t u).le 8:=by
 have:=ok_le (t:=beh t u) (by rw [zmv];exact h)
 rwa [zmv] at this
theorem AF.le.up{t:AF}{n m:Nat}(h:t.le n)(k:n<=m):t.le m:=by
 obtain ⟨h1,h2,h3,h4,h5,h6⟩:=h;exact ⟨oM,oM,oM,oM,oM,oM⟩
theorem zb8(a b c d:Int)(e f:BR)(ha:R64 a)(hb:R64 b)(hc:R64 c)(hd:R64 d)(he:e.len<=100000000)(hf:f.len<=100000000):
  zd Tryz.prog 37 [i64 a,i64 b,i64 c,i64 d,.agg (brE e),.agg (brE f)] [] (.agg (afE (afQ a b c d e.v f.v))) []:=by
 refine zc tok mix Tryz.func37 rfl rfl rfl ?_;refine Dr.k ?_;refine zb.t (qn a ha) ?_;refine zb.t (qn b hb) ?_;refine zb.t (qn c hc) ?_;refine zb.t (qn d hd) ?_;refine zb.t (ku e oM) ?_;refine zb.t (ku f oM) ?_;exact .refl
theorem zv0:zBR.v=((0:Int):Rat):=by decide +kernel
theorem zfw:zd Tryz.prog 34 [] [] (.agg (afE idA)) []:=by
 refine zc tok mix Tryz.func34 rfl rfl rfl ?_
 refine zb.to _ ((zb8 1 0 0 1 zBR zBR dC dC dC dC dC dC).args
  (.cons .refl (.cons .refl (.cons .refl (.cons .refl (.cons (qK jw) (.cons (qK jw) .nil))))))) rfl ?_
 rw [zv0];exact .refl
def jo(n lo hi:Int):Int:=if n < lo then lo else if hi < n then hi else n
theorem zrQ(n lo hi:Int):zd Tryz.prog 86 [i64 n,i64 lo,i64 hi] [] (i64 (jo n lo hi)) []:=by
 refine zc tok mix Tryz.func86 rfl rfl rfl ?_;refine Br.mk (fun h=>?_) (fun h=>?_)
 ·exact zj (by simp [jo,h])
 refine Br.mk (fun h2=>?_) (fun h2=>?_)
 ·exact zj (by simp [jo,h,h2])
 ·exact zj (by simp [jo,h,h2])
theorem zi0{n lo hi:Int}(_:lo<=hi):jo n lo hi=n↔lo<=n/\n<=hi:=by
 unfold jo;split <;> (try split) <;> omega
structure Pt where
 x:Int
 y:Int
 deriving DecidableEq
def ptE(p:Pt):List SV:=[i64 p.x,i64 p.y]
def zp:Pt:=⟨0,0⟩
def zn(p:Pt):Prop:=(-1048576<=p.x/\p.x<=1048576)/\(-1048576<=p.y/\p.y<=1048576)
instance (p:Pt):Decidable (zn p):=inferInstanceAs (Decidable (_/\_))
theorem qJ{p q:Pt}:(p.x=q.x/\p.y=q.y/\True)↔p=q:=by
 cases p;cases q;simp
theorem zv1(n:Int):zd Tryz.prog 130 [i64 n] [] (i64 (jo n (-1048576) 1048576)) []:=by
 refine zc tok mix Tryz.func130 rfl rfl rfl ?_;refine zb.t (zrQ n _ _) ?_;exact .refl
theorem zv2(p:Pt):zd Tryz.prog 85 [.agg (ptE p)] [] (.agg [i64 (jo p.x (-1048576) 1048576),i64 (jo p.y (-1048576) 1048576)]) []:=by
 refine zc tok mix Tryz.func85 rfl rfl rfl ?_;refine Dr.k ?_;refine zb.t (zv1 p.x) ?_;refine zb.t (zv1 p.y) ?_;exact .refl
theorem kS(p:Pt):zd Tryz.prog 55 [.agg (ptE p)] [] (pr (zn p)) []:=by
 refine zc tok mix Tryz.func55 rfl rfl rfl ?_;refine Dr.k ?_;refine zb.t (zv2 p) ?_;refine zF (p:=jo p.x (-1048576) 1048576=p.x/\jo p.y (-1048576) 1048576=p.y/\True) ?_;rw [zi0 dC,zi0 dC];exact ⟨fun h=>⟨h.1,h.2.1⟩,fun h=>⟨h.1,h.2,trivial⟩⟩
theorem uB(p:Pt):zd Tryz.prog 72 [.agg (ptE p)] [] (pr (zn p)) []:=by
 refine zc tok mix Tryz.func72 rfl rfl rfl ?_;refine Br.mk (fun h1=>?_) (fun h1=>ze (fun h=>h1 h.1.1));refine Br.mk (fun h2=>?_) (fun h2=>ze (fun h=>h2 h.1.2));refine Br.mk (fun h3=>?_) (fun h3=>ze (fun h=>h3 h.2.1));exact zF ⟨fun h4=>⟨⟨h1,h2⟩,⟨h3,h4⟩⟩,fun h=>h.2.2⟩
def hI(n:Int):Int:=jo n (-1048576) 1048576
def yE(p:Pt):Pt:=⟨hI p.x,hI p.y⟩
theorem jx(n:Int): -1048576<=hI n/\hI n<=1048576:=by unfold hI jo;split <;> (try split) <;> omega
theorem vE(p:Pt):zn (yE p):=⟨jx _,jx _⟩
def zQ(p q:Pt):Pt:=⟨p.x+q.x,p.y+q.y⟩
def zH(p q:Pt):Pt:=⟨p.x - q.x,p.y - q.y⟩
def subP(p q:Pt):Pt:=zH (yE p) (yE q)
def perpP(p:Pt):Pt:=⟨-hI p.y,hI p.x⟩
def wdg(p q:Pt):Int:=p.x*q.y - p.y*q.x
def dtp(p q:Pt):Int:=p.x*q.x+p.y*q.y
def zb9(p q:Pt):Int:=wdg (yE p) (yE q)
def zts(p q:Pt):Int:=dtp (yE p) (yE q)
theorem jy{a b A B:Int}(ha: -A<=a/\a<=A)(hb: -B<=b/\b<=B): -(A*B)<=a*b/\a*b<=A*B:=by
 have h1:=Int.mul_nonneg (show 0<=A - a by omega) (show 0<=B - b by omega);have h2:=Int.mul_nonneg (show 0<=A - a by omega) (show 0<=B+b by omega);have h3:=Int.mul_nonneg (show 0<=A+a by omega) (show 0<=B - b by omega);have h4:=Int.mul_nonneg (show 0<=A+a by omega) (show 0<=B+b by omega);have e1:(A - a)*(B - b)=A*B - A*b - a*B+a*b:=by grind
 have e2:(A - a)*(B+b)=A*B+A*b - a*B - a*b:=by grind
 have e3:(A+a)*(B - b)=A*B - A*b+a*B - a*b:=by grind
 have e4:(A+a)*(B+b)=A*B+A*b+a*B+a*b:=by grind
 omega
theorem zkS{p q:Pt}(hp:zn p)(hq:zn q): -2199023255552<=dtp p q/\dtp p q<=2199023255552/\(-1099511627776<=p.x*q.x/\p.x*q.x<=1099511627776)/\(-1099511627776<=p.y*q.y/\p.y*q.y<=1099511627776):=by
 have h1:=jy hp.1 hq.1;have h2:=jy hp.2 hq.2;unfold dtp;omega
theorem zgx{p q:Pt}(hp:zn p)(hq:zn q): -2199023255552<=wdg p q/\wdg p q<=2199023255552/\(-1099511627776<=p.x*q.y/\p.x*q.y<=1099511627776)/\(-1099511627776<=p.y*q.x/\p.y*q.x<=1099511627776):=by
 have h1:=jy hp.1 hq.2;have h2:=jy hp.2 hq.1;unfold wdg;omega
theorem yA(x:Int):0<=x*x:=by
 rcases Int.le_total 0 x with h | h
 ·exact Int.mul_nonneg h h
 ·have:=Int.mul_nonneg (show 0<= -x by omega) (show 0<= -x by omega)
  rwa [Int.neg_mul_neg] at this
def sqL(n:Int):Nat->Int->Int
 | 0,s=>s
 | k+1,s=>sqL n k (if (s+2 ^ k)*(s+2 ^ k)<=n then s+2 ^ k else s)
def isq(n:Int):Int:=sqL n 32 0
theorem zi1(n:Int):∀(k:Nat) (s:Int),0<=s->s*s<=n->n < (s+2 ^ k)*(s+2 ^ k)->0<=sqL n k s/\sqL n k s*sqL n k s<=n/\n < (sqL n k s+1)*(sqL n k s+1)
 | 0,s,h0,h1,h2=>by simp only [sqL];exact ⟨h0,h1,by simpa using h2⟩
 | k+1,s,h0,h1,h2=>by
  have hp:(0:Int) < 2 ^ k:=Int.pow_pos dC;have e:(2:Int) ^ (k+1)=2 ^ k+2 ^ k:=by rw [Int.pow_succ];omega
  simp only [sqL]
  split
  ·rename_i h;refine zi1 n k _ oM h ?_;rw [e] at h2
   rwa [Int.add_assoc]
  ·rename_i h;exact zi1 n k _ h0 h1 oM
theorem zfx{n:Int}(h0:0<=n)(h:n < 18446744073709551616):0<=isq n/\isq n*isq n<=n/\n < (isq n+1)*(isq n+1):=
 zi1 n 32 0 dC (by simpa using h0) (by simpa using h)
theorem zv3{n:Int}(h0:0<=n)(h:n < 18446744073709551616):isq n < 4294967296:=by
 have hs:=zfx h0 h;refine Int.not_le.1 fun hk=>?_
 have:=Int.mul_le_mul hk hk dC hs.1;omega
theorem sq_le{a b:Int}(ha:0<=b)(h:a*a<=b*b):a<=b:=by
 refine Int.not_lt.1 fun hk=>?_
 have h1:=Int.mul_le_mul (show b+1<=a by omega) (show b+1<=a by omega) oM oM;have e:(b+1)*(b+1)=b*b+2*b+1:=by grind
 omega
theorem zv4{n a:Int}(h0:0<=n)(h:n < 18446744073709551616)(h1:a*a<=n):a<=isq n:=by
 have hs:=zfx h0 h;have:a<=isq n+1:=sq_le oM oM
 by_cases e:a=isq n+1
 ·subst e;omega
 ·omega
def zv5(p:Pt):Int:=isq (65536*zts p p)
def zcw(a b:Int):Int:=(2*a+b) / (2*b)
def zaJ(a b:Pt)(n d:Int):Pt:=
 if d < 1∨1099511627776 < d then yE a
 else ⟨hI a.x+zX (jo n 0 d*(hI b.x - hI a.x)) d,hI a.y+zX (jo n 0 d*(hI b.y - hI a.y)) d⟩
def zmw(r:List Pt):Prop:=(r.length:Int)<=4096/\∀p∈r,zn p
instance (r:List Pt):Decidable (zmw r):=inferInstanceAs (Decidable (_/\_))
def vL(r:List Pt)(n:Nat):Int:=((List.range n).map fun i=>zb9 (r.getD i zp) (r.getD ((i+1) % r.length) zp)).sum
def zes(r:List Pt):Int:=if zmw r then vL r r.length else 0
def zv6(r:List Pt):List Pt:=match r with
 | []=>[]
 | p::q=>p::q.reverse
def qO(r:List Pt):List Pt:=if zes r=0 then [] else if zes r < 0 then zv6 r else r
theorem zeI(r:List Pt)(n:Nat):vL r (n+1)=vL r n+zb9 (r.getD n zp) (r.getD ((n+1) % r.length) zp):=by
 unfold vL;rw [List.range_succ,List.map_append,List.sum_append];simp
theorem zog(r:List Pt)(n:Nat): -(2199023255552*(n:Int))<=vL r n/\vL r n<=2199023255552*(n:Int):=by
 induction n with
 | zero=>exact ⟨by show _<=(0:Int);decide,by show (0:Int)<=_;decide⟩
 | succ n ih=>
  rw [zeI];have:=zgx (vE (r.getD n zp)) (vE (r.getD ((n+1) % r.length) zp));unfold zb9;omega
theorem zql(r:List Pt):(qO r).length=0∨(qO r).length=r.length:=by
 unfold qO
 split
 ·exact .inl rfl
 ·split
  ·right;unfold zv6;split <;> simp
  ·exact .inr rfl
def kB(w:Int):Prop:=1<=w/\w<=16384
instance (w:Int):Decidable (kB w):=inferInstanceAs (Decidable (_/\_))
def zfy(n:Int):Prop:=n < -2097152∨2097152 < n
instance (n:Int):Decidable (zfy n):=inferInstanceAs (Decidable (_∨_))
def k8(v:Pt)(w:Int):Pt:=
 if ¬kB w∨zfy v.x∨zfy v.y∨v=zp then zp
 else ⟨zX (-v.y*w*128) (isq (65536*(v.x*v.x+v.y*v.y))),zX (v.x*w*128) (isq (65536*(v.x*v.x+v.y*v.y)))⟩
def uN(a b:Pt)(w:Int):List Pt:=
 if ¬(kB w/\zn a/\zn b) then []
 else qO [zH a (k8 (zH b a) w),zH b (k8 (zH b a) w),zQ b (k8 (zH b a) w),zQ a (k8 (zH b a) w)]
def zt:List Pt:=[⟨16384,0⟩,⟨15137,6270⟩,⟨11585,11585⟩,⟨6270,15137⟩,⟨0,16384⟩,⟨-6270,15137⟩,⟨-11585,11585⟩,⟨-15137,6270⟩,
 ⟨-16384,0⟩,⟨-15137,-6270⟩,⟨-11585,-11585⟩,⟨-6270,-15137⟩,⟨0,-16384⟩,⟨6270,-15137⟩,⟨11585,-11585⟩,⟨15137,-6270⟩]
def zcx(p:Pt)(w:Int):List Pt:=
 if ¬(kB w/\zn p) then [] else qO (zt.map fun q=>zQ p ⟨zX (q.x*w) 32768,zX (q.y*w) 32768⟩)
def zqm(a b:Pt)(w:Int):List Pt:=
 if ¬(kB w/\zn a/\zn b) then []
 else
  let n:=k8 (zH b a) w
  let e:Pt:=⟨n.y,-n.x⟩
  qO [zH b n,zQ (zH b n) e,zQ (zQ b n) e,zQ b n]
def zi2(p:Pt)(w:Int):List Pt:=
 if ¬(kB w/\zn p) then []
 else qO [⟨p.x - zX w 2,p.y - zX w 2⟩,⟨p.x+zX w 2,p.y - zX w 2⟩,⟨p.x+zX w 2,p.y+zX w 2⟩,⟨p.x - zX w 2,p.y+zX w 2⟩]
structure Pen where
 w:Int
 j:Int
 c:Int
 m:Int
 d:List Int
 ph:Int
def v6(l:List Int):Prop:=(∀n∈l,0<=n/\n<=1048576)/\(l=[]∨∃n∈l,0 < n)/\l.length % 2=0/\(l.length:Int)<=16
instance (l:List Int):Decidable (v6 l):=inferInstanceAs (Decidable (_/\_))
def qa(p:Pen):Prop:=kB p.w/\(p.j=1∨p.j=2∨p.j=3)/\(p.c=3∨p.c=4∨p.c=5)/\(256<=p.m/\p.m<=65536)/\v6 p.d/\(0<=p.ph/\p.ph<=1048576)
instance (p:Pen):Decidable (qa p):=inferInstanceAs (Decidable (_/\_))
def zca(n m:Pt)(w lim:Int):Pt×Bool:=
 if ¬(zn n/\zn m/\kB w/\256<=lim/\lim<=65536) then (zp,false)
 else
  let s:=zQ n m
  let q:=s.x*s.x+s.y*s.y
  if q=0∨lim*lim*q < 256*w*(256*w) then (zp,false) else (⟨zX (s.x*w*w) (2*q),zX (s.y*w*w) (2*q)⟩,true)
def zmx(p:Pt):Pt:=⟨-p.x,-p.y⟩
def jp(a v b:Pt)(w:Int):Pt×Pt×Bool:=
 if ¬(zn a/\zn v/\zn b/\kB w) then (zp,zp,false)
 else
  let x:=zH v a
  let y:=zH b v
  if wdg x y=0 then (zp,zp,false) else if 0 < wdg x y then (zmx (k8 x w),zmx (k8 y w),true) else (k8 x w,k8 y w,true)
def qV(r:List Pt):List (List Pt):=if r=[] then [] else [r]
def vd(a v b:Pt)(p:Pen):List (List Pt):=
 if ¬(qa p/\zn a/\zn v/\zn b/\¬v=a/\¬v=b) then []
 else if p.j=3 then qV (zcx v p.w)
 else if (jp a v b p.w).2.2=false then []
 else
  let n:=(jp a v b p.w).1
  let m:=(jp a v b p.w).2.1
  qV (qO (if p.j=1/\(zca n m p.w p.m).2=true then [v,zQ v n,zQ v (zca n m p.w p.m).1,zQ v m] else [v,zQ v n,zQ v m]))
structure Sg where
 v:Int
 a:Pt
 b:Pt
 c:Pt
 deriving DecidableEq
def sgE(s:Sg):List SV:=[i64 s.v,i64 s.a.x,i64 s.a.y,i64 s.b.x,i64 s.b.y,i64 s.c.x,i64 s.c.y]
def nm(v:Int):Int:=if v=1 then 1 else if v=2 then 1 else if v=3 then 2 else if v=4 then 3 else if v=5 then 0 else -1
theorem c_named(v:Int):zd Tryz.prog 229 [i64 v] [] (i64 (nm v)) []:=by
 refine zc tok mix Tryz.func229 rfl rfl rfl ?_;refine Br.mk (fun h4=>?_) (fun h4=>?_)
 ·refine Ar.fit dC ?_;refine Ar.fit dC ?_;refine Ar.fit dC ?_;exact zj (by rw [h4];rfl)
 refine Br.mk (fun h3=>?_) (fun h3=>?_)
 ·refine Ar.fit dC ?_;refine Ar.fit dC ?_;exact zj (by rw [h3];rfl)
 refine Br.mk (fun h1=>?_) (fun h1=>?_)
 ·refine Br.mk (fun _=>?_) (fun h=>absurd h1 h);refine Ar.fit dC ?_;exact zj (by rw [h1];rfl)
 refine Br.mk (fun h2=>?_) (fun h2=>?_)
 ·refine Ar.fit dC ?_;exact zj (by rw [h2];rfl)
 refine Br.mk (fun h5=>?_) (fun h5=>?_)
 ·exact zj (by rw [h5];rfl)
 ·exact zj (by unfold nm;rw [if_neg h1,if_neg h2,if_neg h3,if_neg h4,if_neg h5])
def pk(n i:Int)(p:Pt):Prop:=zn p/\(n<=i->p=zp)
instance (n i:Int) (p:Pt):Decidable (pk n i p):=inferInstanceAs (Decidable (_/\_))
def zc7(s:Sg):Prop:=pk (nm s.v) 0 s.a/\pk (nm s.v) 1 s.b/\pk (nm s.v) 2 s.c
instance (s:Sg):Decidable (zc7 s):=inferInstanceAs (Decidable (_/\_))
theorem zoh{s:Sg}:zc7 s↔∀(j:Nat) x,[s.a,s.b,s.c][j]? =some x->pk (nm s.v) j x:=by
 constructor
 ·rintro ⟨h1,h2,h3⟩ j x hx
  match j,hx with
  | 0,hx=>cases hx;exact h1
  | 1,hx=>cases hx;exact h2
  | 2,hx=>cases hx;exact h3
 ·exact fun h=>⟨h 0 _ rfl,h 1 _ rfl,h 2 _ rfl⟩
theorem zqn(s:Sg):zd Tryz.prog 272 [.agg (sgE s)] [] (pr (zc7 s)) []:=by
 refine zc tok mix Tryz.func272 rfl rfl rfl ?_;refine ⟨Pt,ptE,[s.a,s.b,s.c],rfl,Ob.o0 ?_⟩;intro _
 refine ⟨Nat,fun i=>⟨[(13,i64 i),(12,i64 3),(11,.own 1),(1,.loc 0 0)],[(1,.arr 63 ptE 2 [s.a,s.b,s.c]),(0,.box 141 (sgE s))],2,34,0⟩,
  fun i=>i<=3/\∀(j:Nat) x,j < i->[s.a,s.b,s.c][j]? =some x->pk (nm s.v) j x,fun i=>3 - i,0,?_,?_,?_⟩
 ·exact ⟨oM,fun j x hj=>by omega⟩
 ·exact zf [(0,some 0),(1,some 1)]
 rintro i ⟨h1,h2⟩
 refine Br.mk (fun h3=>?_) (fun h3=>?_)
 ·have h3:i < 3:=by omega
  refine Ob.mk ⟨oM,by show (i:Int) < 3;omega⟩ ?_;refine Ob.mk ⟨oM,by show (i:Int) < 3;omega⟩ ?_;intro x hx;have hx:[s.a,s.b,s.c][i]? =some x:=hx;refine zb.t (kS x) ?_;have out:¬pk (nm s.v) i x->¬zc7 s:=fun h hf=>h (zoh.1 hf i x hx)
  refine Br.mk (fun h4=>ze (out fun h=>h4 h.1)) (fun h4=>?_);have h4:=Decidable.not_not.1 h4;refine zb.t (c_named s.v) ?_
  have next:pk (nm s.v) i x->(i+1<=3/\∀(j:Nat) x,j < i+1->[s.a,s.b,s.c][j]? =some x->pk (nm s.v) j x):=fun h=>⟨oM,fun j y hj hy=>by
   by_cases e:j=i
   ·subst e;rw [hx] at hy;cases hy;exact h
   ·exact h2 j y oM hy⟩
  refine Br.mk (fun h5=>?_) (fun h5=>?_)
  ·refine Br.mk (fun h6=>ze (out fun h=>h6 (qJ.2 (h.2 h5)))) (fun h6=>?_);have h6:x=zp:=qJ.1 (Decidable.not_not.1 h6);refine Ar.o ?_;exact ⟨i+1,next ⟨h4,fun _=>h6⟩,zf [(0,some 0),(1,some 1)],by dsimp only;omega⟩
  ·refine Ar.o ?_;exact ⟨i+1,next ⟨h4,fun h=>absurd h h5⟩,zf [(0,some 0),(1,some 1)],by dsimp only;omega⟩
 ·refine zP (zoh.2 fun j x hx=>h2 j x ?_ hx);have:=(List.getElem?_eq_some_iff.1 hx).1;have h3:¬((i:Int) < 3):=h3;simp at this;omega
def zbk(last v:Int):Prop:=v=1∨(last≠5/\(v≠5∨last≠1))
instance (last v:Int):Decidable (zbk last v):=inferInstanceAs (Decidable (_∨_))
def js(last:Int)(s:Sg):Int:=if nm s.v < 0 then 2 else if ¬zbk last s.v then 10 else if ¬zc7 s then 6 else 0
def chk(last:Int)(i:Nat):List Sg->Int×Int
 | []=>(0,0)
 | s::r=>if js last s≠0 then (js last s,i) else chk s.v (i+1) r
def vM(l:List Sg):Int×Int:=if 256 < l.length then (5,256) else chk 5 0 l
def qq(l:List Sg):Prop:=(vM l).1=0
instance (l:List Sg):Decidable (qq l):=inferInstanceAs (Decidable (_=_))
theorem zmy{α:Type}{l:List α}{i:Nat}{x:α}(h:l[i]? =some x):l.drop i=x::l.drop (i+1):=by
 obtain ⟨hl,he⟩:=List.getElem?_eq_some_iff.1 h;rw [List.drop_eq_getElem_cons hl,he]
def twoI(c:Int×Int):SV:=.tup [i64 c.1,i64 c.2]
theorem zyZ(l:List Sg):zd Tryz.prog 228 [.sl sgE l] [] (twoI (vM l)) []:=by
 refine zc tok mix Tryz.func228 rfl rfl rfl ?_;have fin:∀{a b:Int},vM l=(a,b)->LE (.tup [i64 a,i64 b]) (twoI (vM l)):=fun h=>by rw [h];exact .refl
 intro hl;refine Br.mk (fun h=>fin (by unfold vM;rw [if_pos oM])) (fun h=>?_);have hc:vM l=chk 5 0 l:=by unfold vM;rw [if_neg oM]
 intro hl1;refine ⟨Nat×Int,fun q=>⟨[(13,i64 q.1),(12,i64 l.length),(11,.sl sgE l),(4,i64 q.2)],[],0,52,0⟩,fun q=>q.1<=l.length/\chk 5 0 l=chk q.2 q.1 (l.drop q.1),fun q=>l.length - q.1,(0,5),?_,?_,?_⟩
 ·exact ⟨Nat.zero_le _,rfl⟩
 ·exact zf []
 rintro ⟨i,last⟩ ⟨h1,h2⟩
 have h1:i<=l.length:=h1;have h2:chk 5 0 l=chk last i (l.drop i):=h2;refine Br.mk (fun h3=>?_) (fun h3=>?_)
 ·have h3:(i:Int) < l.length:=h3;refine Ob.mk ⟨by dsimp only;omega,h3⟩ ?_;intro x hx;have hx:l[i]? =some x:=hx;rw [zmy hx] at h2
  have bad:∀{e:Int},js last x=e->e≠0->vM l=(e,(i:Int)):=fun h hn=>by
   rw [hc,h2];unfold chk;rw [if_pos (by rw [h];exact hn),h]
  have good:js last x=0->(i+1,x.v).1<=l.length/\chk 5 0 l=chk (i+1,x.v).2 (i+1,x.v).1 (l.drop (i+1,x.v).1):=fun h=>⟨by show i+1<=_;omega,by
   show _=chk x.v (i+1) _;rw [h2];conv=>lhs;unfold chk
   rw [if_neg (fun hn=>hn h)]⟩
  refine Br.mk (fun j1=>?_) (fun j1=>?_)
  ·have st:zbk last x.v:=.inl j1;refine zb.t (c_named x.v) ?_;refine Br.mk (fun k1=>fin (bad (by unfold js;rw [if_pos k1]) dC)) (fun k1=>?_);refine zb.t (zqn x) ?_;refine Br.mk (fun k2=>fin (bad (by unfold js;rw [if_neg k1,if_neg (fun h=>h st),if_pos k2]) dC)) (fun k2=>?_);refine Ar.fit (by dsimp only;omega) ?_;exact ⟨(i+1,x.v),good (by unfold js;rw [if_neg k1,if_neg (fun h=>h st),if_neg k2]),zf [],by show l.length - (i+1) < l.length - i;omega⟩
  refine Br.mk (fun j2=>?_) (fun j2=>?_)
  ·refine Br.mk (fun j3=>?_) (fun j3=>?_)
   ·have st:zbk last x.v:=.inr ⟨j2,.inl j3⟩;refine zb.t (c_named x.v) ?_;refine Br.mk (fun k1=>fin (bad (by unfold js;rw [if_pos k1]) dC)) (fun k1=>?_);refine zb.t (zqn x) ?_;refine Br.mk (fun k2=>fin (bad (by unfold js;rw [if_neg k1,if_neg (fun h=>h st),if_pos k2]) dC)) (fun k2=>?_);refine Ar.fit (by dsimp only;omega) ?_;exact ⟨(i+1,x.v),good (by unfold js;rw [if_neg k1,if_neg (fun h=>h st),if_neg k2]),zf [],by show l.length - (i+1) < l.length - i;omega⟩
   ·refine zb.t (c_named x.v) ?_;refine Br.mk (fun k1=>fin (bad (by unfold js;rw [if_pos k1]) dC)) (fun k1=>?_);have j3:=Decidable.not_not.1 j3
    have ns:¬last≠1->¬zbk last x.v:=fun k0 st=>by
     rcases st with st | ⟨_,st | st⟩
     ·exact j1 st
     ·exact st j3
     ·exact k0 st
    refine Br.mk (fun k0=>fin (bad (by unfold js;rw [if_neg k1,if_pos (ns k0)]) dC)) (fun k0=>?_);have st:zbk last x.v:=.inr ⟨j2,.inr (Decidable.not_not.1 k0)⟩;refine zb.t (zqn x) ?_;refine Br.mk (fun k2=>fin (bad (by unfold js;rw [if_neg k1,if_neg (fun h=>h st),if_pos k2]) dC)) (fun k2=>?_);refine Ar.fit (by dsimp only;omega) ?_;exact ⟨(i+1,x.v),good (by unfold js;rw [if_neg k1,if_neg (fun h=>h st),if_neg k2]),zf [],by show l.length - (i+1) < l.length - i;omega⟩
  ·refine zb.t (c_named x.v) ?_;refine Br.mk (fun k1=>fin (bad (by unfold js;rw [if_pos k1]) dC)) (fun k1=>?_)
   have ns:¬zbk last x.v:=fun st=>by
    rcases st with st | ⟨st,_⟩
    ·exact j1 st
    ·exact j2 st
   exact fin (bad (by unfold js;rw [if_neg k1,if_pos ns]) dC)
 ·refine fin (hc.trans (h2.trans ?_));rw [List.drop_eq_nil_of_le (by have h3:¬(i:Int) < l.length:=h3;omega)];rfl
theorem zhO(l:List Sg):zd Tryz.prog 168 [.sl sgE l] [] (pr (qq l)) []:=by
 refine zc tok mix Tryz.func168 rfl rfl rfl ?_;refine zb.t (zyZ l) ?_;exact zF Iff.rfl
end Go.Gs
