/- Transforms, the program's. -/
import Derived.Test.YtbgnkgoiocjbnaaGreatMA
import Derived.Test.YtbgnkgoiocjbnaaGreatMBB
import Derived.Test.YtbgnkgoiocjbnaaGreatMAT
import Derived.Test.YtbgnkgoiocjbnaaGreatMAU
import Derived.Test.YtbgnkgoiocjbnaaGreatMAS
set_option maxRecDepth 100000
set_option maxHeartbeats 8000000
set_option linter.all false
namespace Go.Gs
open Go.Proofs
structure AF where
 a:BR
 b:BR
 c:BR
 d:BR
 e:BR
 f:BR
def afE(t:AF):List SV:=brE t.a++(brE t.b++(brE t.c++(brE t.d++(brE t.e++brE t.f))))
def AF.le(t:AF)(n:Nat):Prop:=t.a.len<=n/\t.b.len<=n/\t.c.len<=n/\t.d.len<=n/\t.e.len<=n/\t.f.len<=n
def AF.nth(t:AF):Nat->BR
 | 0=>t.a
 | 1=>t.b
 | 2=>t.c
 | 3=>t.d
 | 4=>t.e
 | _=>t.f
def stage(t:AF):Nat->AF
 | 0=>t
 | 1=>{ t with a:=ofQ t.a.v }
 | 2=>{ t with a:=ofQ t.a.v,b:=ofQ t.b.v }
 | 3=>{ t with a:=ofQ t.a.v,b:=ofQ t.b.v,c:=ofQ t.c.v }
 | 4=>{ t with a:=ofQ t.a.v,b:=ofQ t.b.v,c:=ofQ t.c.v,d:=ofQ t.d.v }
 | 5=>{ t with a:=ofQ t.a.v,b:=ofQ t.b.v,c:=ofQ t.c.v,d:=ofQ t.d.v,e:=ofQ t.e.v }
 | _=>⟨ofQ t.a.v,ofQ t.b.v,ofQ t.c.v,ofQ t.d.v,ofQ t.e.v,ofQ t.f.v⟩
def AF.nrm(t:AF):AF:=⟨ofQ t.a.v,ofQ t.b.v,ofQ t.c.v,ofQ t.d.v,ofQ t.e.v,ofQ t.f.v⟩
def zjO:List SV:=(List.replicate 12 [bl false,SV.val (.slice none 0 0)]).flatten
theorem zpz(t:AF)(ht:t.le 400000000):zd Tryz.prog 152 [.agg (afE t)] [] (.agg (afE t.nrm)) []:=by
 obtain ⟨ha,hb,hc,hd,he,hf⟩:=ht;refine zc tok mix Tryz.func152 rfl rfl rfl ?_
 refine ⟨Nat,fun i=>⟨[(20,i64 i),(19,.agg (afE t)),(3,.loc 2 0),(2,.loc 1 0)],[(2,.box 181 (afE (stage t i))),(1,.box 181 zjO),(0,.box 29 (afE t))],3,30,0⟩,
  fun i=>i<=6,fun i=>6 - i,0,Nat.zero_le _,?_,?_⟩
 ·exact zh [(0,some 0),(1,some 1),(2,some 2)]
 intro i hi;have hi:i=0∨i=1∨i=2∨i=3∨i=4∨i=5∨i=6:=by have hi:i<=6:=hi;omega
 rcases hi with rfl | rfl | rfl | rfl | rfl | rfl | rfl
 ·refine Br.y ?_;refine zb.t (qr t.a ha) ?_;refine Ar.fit dC ?_;exact ⟨1,(by show 1<=6;decide),zh [(0,some 0),(1,some 1),(2,some 2)],dC⟩
 ·refine Br.y ?_;refine zb.t (qr t.b hb) ?_;refine Ar.fit dC ?_;exact ⟨2,(by show 2<=6;decide),zh [(0,some 0),(1,some 1),(2,some 2)],dC⟩
 ·refine Br.y ?_;refine zb.t (qr t.c hc) ?_;refine Ar.fit dC ?_;exact ⟨3,(by show 3<=6;decide),zh [(0,some 0),(1,some 1),(2,some 2)],dC⟩
 ·refine Br.y ?_;refine zb.t (qr t.d hd) ?_;refine Ar.fit dC ?_;exact ⟨4,(by show 4<=6;decide),zh [(0,some 0),(1,some 1),(2,some 2)],dC⟩
 ·refine Br.y ?_;refine zb.t (qr t.e he) ?_;refine Ar.fit dC ?_;exact ⟨5,(by show 5<=6;decide),zh [(0,some 0),(1,some 1),(2,some 2)],dC⟩
 ·refine Br.y ?_;refine zb.t (qr t.f hf) ?_;refine Ar.fit dC ?_;exact ⟨6,(by show 6<=6;decide),zh [(0,some 0),(1,some 1),(2,some 2)],dC⟩
 ·refine Br.mk (fun h=>absurd h dC) (fun _=>?_);exact .refl
def okI(t:AF):Nat->Prop
 | 0=>True
 | k+1=>okI t k/\vF (t.nth k).v<=256
def AF.ok(t:AF):Prop:=okI t 6
instance (t:AF):∀n,Decidable (okI t n):=fun n=>by
 induction n with
 | zero=>exact isTrue trivial
 | succ k ih=>unfold okI;exact instDecidableAnd
instance (t:AF):Decidable t.ok:=inferInstanceAs (Decidable (okI t 6))
theorem ztn(t:AF)(ht:t.le 100000000):zd Tryz.prog 100 [.agg (afE t)] [] (pr t.ok) []:=by
 have ht':=ht;obtain ⟨ha,hb,hc,hd,he,hf⟩:=ht;refine zc tok mix Tryz.func100 rfl rfl rfl ?_;refine zb.t (zpz t ⟨oM,oM,oM,oM,oM,oM⟩) ?_;refine ⟨Nat,fun i=>⟨[(6,.agg (afE t.nrm)),(7,i64 i)],[],1,14,0⟩,fun i=>i<=6/\okI t i,fun i=>6 - i,0,⟨Nat.zero_le _,trivial⟩,?_,?_⟩
 ·exact zh []
 rintro i ⟨hi,ok⟩
 have hi:i=0∨i=1∨i=2∨i=3∨i=4∨i=5∨i=6:=oM
 rcases hi with rfl | rfl | rfl | rfl | rfl | rfl | rfl
 ·refine Br.y ?_;have l1:=kR t.a;refine zb.t (zaA (ofQ t.a.v) (by rw [zJ];omega)) ?_;rw [kE];refine Br.mk (fun h=>ze (fun h'=>?_)) (fun h=>?_)
  ·simp only [AF.ok,okI,AF.nth] at h';omega
  refine Ar.fit dC ?_;exact ⟨1,⟨(by show 1<=6;decide),ok,(by show vF t.a.v<=256;omega)⟩,zh [],dC⟩
 ·refine Br.y ?_;have l1:=kR t.b;refine zb.t (zaA (ofQ t.b.v) (by rw [zJ];omega)) ?_;rw [kE];refine Br.mk (fun h=>ze (fun h'=>?_)) (fun h=>?_)
  ·simp only [AF.ok,okI,AF.nth] at h';omega
  refine Ar.fit dC ?_;exact ⟨2,⟨(by show 2<=6;decide),ok,(by show vF t.b.v<=256;omega)⟩,zh [],dC⟩
 ·refine Br.y ?_;have l1:=kR t.c;refine zb.t (zaA (ofQ t.c.v) (by rw [zJ];omega)) ?_;rw [kE];refine Br.mk (fun h=>ze (fun h'=>?_)) (fun h=>?_)
  ·simp only [AF.ok,okI,AF.nth] at h';omega
  refine Ar.fit dC ?_;exact ⟨3,⟨(by show 3<=6;decide),ok,(by show vF t.c.v<=256;omega)⟩,zh [],dC⟩
 ·refine Br.y ?_;have l1:=kR t.d;refine zb.t (zaA (ofQ t.d.v) (by rw [zJ];omega)) ?_;rw [kE];refine Br.mk (fun h=>ze (fun h'=>?_)) (fun h=>?_)
  ·simp only [AF.ok,okI,AF.nth] at h';omega
  refine Ar.fit dC ?_;exact ⟨4,⟨(by show 4<=6;decide),ok,(by show vF t.d.v<=256;omega)⟩,zh [],dC⟩
 ·refine Br.y ?_;have l1:=kR t.e;refine zb.t (zaA (ofQ t.e.v) (by rw [zJ];omega)) ?_;rw [kE];refine Br.mk (fun h=>ze (fun h'=>?_)) (fun h=>?_)
  ·simp only [AF.ok,okI,AF.nth] at h';omega
  refine Ar.fit dC ?_;exact ⟨5,⟨(by show 5<=6;decide),ok,(by show vF t.e.v<=256;omega)⟩,zh [],dC⟩
 ·refine Br.y ?_;have l1:=kR t.f;refine zb.t (zaA (ofQ t.f.v) (by rw [zJ];omega)) ?_;rw [kE];refine Br.mk (fun h=>ze (fun h'=>?_)) (fun h=>?_)
  ·simp only [AF.ok,okI,AF.nth] at h';omega
  refine Ar.fit dC ?_;exact ⟨6,⟨(by show 6<=6;decide),ok,(by show vF t.f.v<=256;omega)⟩,zh [],dC⟩
 ·refine Br.mk (fun h=>absurd h dC) (fun _=>?_);exact kC ok
theorem zrA(a b c d:BR)(ha:a.len<=10000000)(hb:b.len<=10000000)(hc:c.len<=10000000)(hd:d.len<=10000000):
  zd Tryz.prog 154 [.agg (brE a),.agg (brE b),.agg (brE c),.agg (brE d)] [] (.agg (brE (ofQ (a.v*b.v+c.v*d.v)))) []:=by
 have l1:=kR a;have l2:=kR b;have l3:=kR c;have l4:=kR d;have m1:=zaz a.v b.v;have m2:=zaz c.v d.v;refine zc tok mix Tryz.func154 rfl rfl rfl ?_;refine Dr.k ?_;refine zb.t (zuq a b oM oM) ?_;refine zb.t (zuq c d oM oM) ?_;refine zb.t (zlr (ofQ (a.v*b.v)) (ofQ (c.v*d.v)) (by rw [zJ];omega) (by rw [zJ];omega)) ?_;rw [kE,kE];exact .refl
def jX(t:AF)(x y:Rat):Rat:=t.a.v*x+t.c.v*y+t.e.v
def jY(t:AF)(x y:Rat):Rat:=t.b.v*x+t.d.v*y+t.f.v
theorem qo(a b c d e:BR){n:Nat}(h1:a.len<=n)(h2:b.len<=n)(h3:c.len<=n)(h4:d.len<=n)(h5:e.len<=n):y5 (a.v*b.v+c.v*d.v)<=4*n+5/\y5 (a.v*b.v+c.v*d.v+e.v)<=5*n+7:=by
 have l1:=kR a;have l2:=kR b;have l3:=kR c;have l4:=kR d;have l5:=kR e;have m1:=zaz a.v b.v;have m2:=zaz c.v d.v;have m3:=zay (a.v*b.v) (c.v*d.v);have m4:=zay (a.v*b.v+c.v*d.v) e.v;omega
theorem zto(t:AF)(x y:BR)(ht:t.le 5000000)(hx:x.len<=5000000)(hy:y.len<=5000000):
  zd Tryz.prog 101 [.agg (afE t),.agg (brE x),.agg (brE y)] [] (.tup [.agg (brE (ofQ (jX t x.v y.v))),.agg (brE (ofQ (jY t x.v y.v)))]) []:=by
 obtain ⟨ha,hb,hc,hd,he,hf⟩:=ht;have m1:=qo t.a x t.c y t.e ha hx hc hy he;have m2:=qo t.b x t.d y t.f hb hx hd hy hf;refine zc tok mix Tryz.func101 rfl rfl rfl ?_;refine Dr.k ?_;refine zb.t (zrA t.a x t.c y oM oM oM oM) ?_;refine zb.t (zlr (ofQ (t.a.v*x.v+t.c.v*y.v)) t.e (by rw [zJ];omega) oM) ?_;refine zb.t (zrA t.b x t.d y oM oM oM oM) ?_;refine zb.t (zlr (ofQ (t.b.v*x.v+t.d.v*y.v)) t.f (by rw [zJ];omega) oM) ?_;rw [kE,kE];exact .refl
def afQ(a b c d e f:Rat):AF:=⟨ofQ a,ofQ b,ofQ c,ofQ d,ofQ e,ofQ f⟩
def goP(t:AF)(p:Pt):Pt:=⟨(jX t (p.x:Rat) (p.y:Rat)+Rat.divInt 1 2).floor,(jY t (p.x:Rat) (p.y:Rat)+Rat.divInt 1 2).floor⟩
def kt(t:AF)(p:Pt):Pt×Int:=if ¬t.ok then (zp,5) else if ¬zo p then (zp,6) else if zo (goP t p) then (goP t p,0) else (zp,6)
theorem zcx(t:AF)(p:Pt)(ht:t.le 100000):zd Tryz.prog 52 [.agg (afE t),.agg (ptE p)] [] (.tup [.agg (ptE (kt t p).1),i64 (kt t p).2]) []:=by
 obtain ⟨ha,hb,hc,hd,he,hf⟩:=ht;refine zc tok mix Tryz.func52 rfl rfl rfl ?_;have fin:∀(q:Pt) (n:Int),(kt t p)=(q,n)->LE (.tup [.agg (ptE q),i64 n]) (.tup [.agg (ptE (kt t p).1),i64 (kt t p).2]):=fun q n h=>by rw [h];exact .refl
 refine zb.t (ztn t ⟨oM,oM,oM,oM,oM,oM⟩) ?_;refine Br.mk (fun h1=>?_) (fun h1=>?_)
 ·exact fin zp 5 (by rw [kt,if_pos h1])
 refine zb.t (qc p) ?_;refine Br.mk (fun h2=>?_) (fun h2=>?_)
 ·exact fin zp 6 (by rw [kt,if_neg h1,if_pos h2])
 have hp:zo p:=Classical.byContradiction h2;have hx:R64 p.x:=by unfold R64;unfold zo at hp;omega
 have hy:R64 p.y:=by unfold R64;unfold zo at hp;omega
 have lx:=uF p.x;have ly:=uF p.y;have zx:=jq hx;have zy:=jq hy;refine Dr.k ?_;refine zb.t (zeA p.x hx) ?_;refine zb.t (zeA p.y hy) ?_;refine zb.t (zto t (ofQ (p.x:Rat)) (ofQ (p.y:Rat)) ⟨oM,oM,oM,oM,oM,oM⟩ (by rw [zJ];omega) (by rw [zJ];omega)) ?_;rw [kE,kE];have lX:=qo t.a (ofQ (p.x:Rat)) t.c (ofQ (p.y:Rat)) t.e (n:=100000) ha (by rw [zJ];omega) hc (by rw [zJ];omega) he;have lY:=qo t.b (ofQ (p.x:Rat)) t.d (ofQ (p.y:Rat)) t.f (n:=100000) hb (by rw [zJ];omega) hd (by rw [zJ];omega) hf;rw [kE,kE] at lX lY
 have lh:y5 (Rat.divInt 1 2)<=1:=by decide +kernel
 have mX:=zay (jX t p.x p.y) (Rat.divInt 1 2);have mY:=zay (jY t p.x p.y) (Rat.divInt 1 2);have lX2:y5 (jX t p.x p.y)<=500007:=lX.2;have lY2:y5 (jY t p.x p.y)<=500007:=lY.2
 have fl:∀q:Rat,je q.floor<=y5 q:=fun q=>Nat.le_trans (zat (by
  rw [Rat.floor_def]
  exact Int.natAbs_ediv_le_natAbs _ _)) (jb q)
 have fX:=fl (jX t p.x p.y+Rat.divInt 1 2);have fY:=fl (jY t p.x p.y+Rat.divInt 1 2);refine zb.t (zmX 1 2 dC dC dC) ?_;refine zb.t (zlr (ofQ (jX t p.x p.y)) (ofQ (Rat.divInt 1 2)) (by rw [zJ];omega) (by rw [zJ];omega)) ?_;rw [kE,kE];refine zb.t (zoh (ofQ (jX t p.x p.y+Rat.divInt 1 2)) (by rw [zJ];omega)) ?_;rw [kE];refine zb.t (zog (ofZ (jX t p.x p.y+Rat.divInt 1 2).floor) (by rw [zT];omega)) ?_;refine zb.t (zlr (ofQ (jY t p.x p.y)) (ofQ (Rat.divInt 1 2)) (by rw [zJ];omega) (by rw [zJ];omega)) ?_;rw [kE,kE]
 refine zb.t (zoh (ofQ (jY t p.x p.y+Rat.divInt 1 2)) (by rw [zJ];omega)) ?_;rw [kE];refine zb.t (zog (ofZ (jY t p.x p.y+Rat.divInt 1 2).floor) (by rw [zT];omega)) ?_;rw [z8,z8];obtain ⟨X,hX⟩:∃X,(jX t p.x p.y+Rat.divInt 1 2).floor=X:=⟨_,rfl⟩;obtain ⟨Y,hY⟩:∃Y,(jY t p.x p.y+Rat.divInt 1 2).floor=Y:=⟨_,rfl⟩;have hg:goP t p=⟨X,Y⟩:=by unfold goP;rw [hX,hY]
 rw [hX,hY];have out:¬zo ⟨X,Y⟩->kt t p=(zp,6):=fun h=>by rw [kt,if_neg h1,if_neg h2,if_neg (by rw [hg];exact h)]
 have inn:zo ⟨X,Y⟩->kt t p=(⟨X,Y⟩,0):=fun h=>by rw [kt,if_neg h1,if_neg h2,if_pos (by rw [hg];exact h),hg]
 have big:zo ⟨X,Y⟩->(-9223372036854775808<=X/\X<=9223372036854775807)/\(-9223372036854775808<=Y/\Y<=9223372036854775807):=fun h=>by unfold zo at h;dsimp only at h;omega
 refine Br.mk (fun h3=>?_) (fun h3=>?_)
 ·refine Br.mk (fun h4=>?_) (fun h4=>?_)
  ·refine zb.t (qc ⟨yH X,yH Y⟩) ?_;rw [yH,if_pos h3,yH,if_pos h4];refine Br.mk (fun h5=>?_) (fun h5=>?_)
   ·exact fin ⟨X,Y⟩ 0 (inn h5)
   ·exact fin zp 6 (out h5)
  ·exact fin zp 6 (out fun h=>h4 (big h).2)
 ·exact fin zp 6 (out fun h=>h3 (big h).1)
def qi(t:AF):List Pt->Int
 | []=>0
 | p::r=>if (kt t p).2≠0 then (kt t p).2 else qi t r
def yU(t:AF)(s:Sg):Sg:=zeZ s.v ((zD s).map fun p=>(kt t p).1)
def kg(t:AF)(l:List Sg):List Sg×Int:=
 if ¬qK l then ([],10) else if qi t (zY l)≠0 then ([],qi t (zY l)) else (l.map (yU t),0)
theorem qR(t:AF):∀q r:List Pt,qi t (q++r)=if qi t q≠0 then qi t q else qi t r
 | [],r=>by simp [qi]
 | p::q,r=>by
  rw [List.cons_append,qi,qi,qR t q r]
  by_cases h:(kt t p).2=0
  ·simp [h]
  ·simp [h]
theorem y6{t:AF}{q:List Pt}{k:Nat}{p:Pt}(h0:qi t (q.take k)=0)(hp:q[k]? =some p):
  ((kt t p).2=0->qi t (q.take (k+1))=0)/\((kt t p).2≠0->qi t q=(kt t p).2):=by
 have e:q.take (k+1)=q.take k++[p]:=by rw [List.take_add_one,hp];rfl
 have e1:qi t (q.take (k+1))=(kt t p).2:=by
  rw [e,qR,h0]
  by_cases h:(kt t p).2=0 <;> simp [qi,h]
 refine ⟨fun h=>by rw [e1,h],fun h=>?_⟩;have:=qR t (q.take (k+1)) (q.drop (k+1));rw [List.take_append_drop,e1,if_pos h] at this;exact this
theorem zrB(s:Sg):(zD s).length<=3:=by
 unfold zD;have:=vC s.v;simp only [List.length_take,List.length_cons,List.length_nil];omega
theorem ztp(l:List Sg)(t:AF)(ht:t.le 100000)(hlen:l.length<=300):zd Tryz.prog 37 [.sl sgE l,.agg (afE t)] [] (.tup [.sl sgE (kg t l).1,i64 (kg t l).2]) []:=by
 refine zc tok mix Tryz.func37 rfl rfl rfl ?_
 have bad:∀e:Int,kg t l=([],e)->LE (.tup [.val (.slice none 0 0),i64 e]) (.tup [.sl sgE (kg t l).1,i64 (kg t l).2]):=fun e h=>by
  rw [h];exact zS ku .refl
 refine zb.t (zjy l) ?_;refine Br.mk (fun h1=>?_) (fun h1=>?_)
 ·exact bad 10 (by rw [kg,if_pos h1])
 intro hl
 refine ⟨Nat×Option (List Sg),fun q=>match q with
   | (i,none)=>⟨[(19,i64 i),(18,i64 l.length),(17,.sl sgE l),(6,.val (.slice none 0 0)),(3,.loc 0 0)],[(0,.box 29 (afE t))],1,53,0⟩
   | (i,some out)=>⟨[(19,i64 i),(18,i64 l.length),(17,.sl sgE l),(6,.own 1),(3,.loc 0 0)],[(1,.arr 75 sgE 7 out),(0,.box 29 (afE t))],2,53,0⟩,
  fun q=>match q with
   | (i,none)=>i=0
   | (i,some out)=>i<=l.length/\out=(l.take i).map (yU t)/\qi t (zY (l.take i))=0,fun q=>l.length - q.1,(0,none),rfl,?_,?_⟩
 ·exact zh [(0,some 0)]
 have errs:∀(i:Nat) (x:Sg) (p:Pt) (k:Nat),qi t (zY (l.take i))=0->l[i]? =some x->qi t ((zD x).take k)=0->(zD x)[k]? =some p->(kt t p).2≠0->kg t l=([],(kt t p).2):=by
  intro i x p k h0 hx hk hp he;have e2:=(y6 hk hp).2 he
  have e3:qi t (zY l)=(kt t p).2:=by
   have hd:=zfu hx
   have:zY l=zY (l.take i)++(zD x++zY (l.drop (i+1))):=by
    conv=>lhs;rw [← List.take_append_drop i l,hd]
    simp [zY]
   rw [this,qR,h0];simp only [ne_eq,not_true_eq_false,if_false];rw [qR,e2,if_pos he]
  rw [kg,if_neg h1,e3,if_pos he]
 have fin0:∀i x,qi t (zY (l.take i))=0->l[i]? =some x->qi t (zD x)=0->qi t (zY (l.take (i+1)))=0:=fun i x h0 hx hk=>by
  rw [uC hx,qR,h0];simpa using hk
 rintro ⟨i,_ | out⟩ hI
 ·have hI:i=0:=hI;subst hI;have hi0:qi t (zY (l.take 0))=0:=rfl;have hil:0<=l.length:=Nat.zero_le _;refine Br.mk (fun h2=>?_) (fun h2=>?_)
  ·refine Ob.o ?_;intro x hx;have hx:l[0]? =some x:=hx;refine zb.t (zgA x) ?_;intro hl4
   refine ⟨Nat×Option (List Pt),fun q=>match q with
     | (k,none)=>⟨[(26,i64 k),(25,i64 (zD x).length),(24,.sl ptE (zD x)),(9,.val (.slice none 0 0)),(8,.loc 1 0),(19,i64 (0:Nat)),(18,i64 l.length),(17,.sl sgE l),(6,.val (.slice none 0 0)),(3,.loc 0 0)],[(1,.box 75 (sgE x)),(0,.box 29 (afE t))],2,53,0⟩
     | (k,some to)=>⟨[(26,i64 k),(25,i64 (zD x).length),(24,.sl ptE (zD x)),(9,.own 2),(8,.loc 1 0),(19,i64 (0:Nat)),(18,i64 l.length),(17,.sl sgE l),(6,.val (.slice none 0 0)),(3,.loc 0 0)],[(2,.arr 52 ptE 2 to),(1,.box 75 (sgE x)),(0,.box 29 (afE t))],3,53,0⟩,
    fun q=>match q with
     | (k,none)=>k=0
     | (k,some to)=>k<=(zD x).length/\to=((zD x).take k).map (fun p=>(kt t p).1)/\qi t ((zD x).take k)=0,fun q=>(zD x).length - q.1,(0,none),rfl,?_,?_⟩
   ·exact zh [(0,some 0),(1,some 1)]
   have hx3:=zrB x
   rintro ⟨k,_ | to⟩ hK
   ·have hK:k=0:=hK;subst hK;have hk0:qi t ((zD x).take 0)=0:=rfl;have hkl:0<=(zD x).length:=Nat.zero_le _;refine Br.mk (fun h4=>?_) (fun h4=>?_)
    ·refine Ob.o ?_;intro p hp;have hp:(zD x)[0]? =some p:=hp;refine zb.t (zcx t p ht) ?_;refine Br.mk (fun h5=>?_) (fun h5=>?_)
     ·exact bad _ (errs 0 x p 0 hi0 hx hk0 hp h5)
     have h5:(kt t p).2=0:=Classical.byContradiction h5;have hk1:=(y6 hk0 hp).1 h5;refine ⟨Pt,ptE,[(kt t p).1],rfl,Ob.o0 ?_⟩;refine ⟨_,_,_,rfl,Ob.o18 ?_⟩;refine Ar.fit dC ?_;refine ⟨(1,some [(kt t p).1]),⟨oM,(by rw [List.take_add_one,hp];rfl),hk1⟩,zh [(0,some 0),(1,some 1),(2,some 5)],by dsimp only;omega⟩
    ·have hp0:zD x=[]:=List.length_eq_zero_iff.1 oM;have hgo:zeZ x.v []=yU t x:=by rw [yU,hp0];rfl
     have hall:=fin0 0 x hi0 hx (by rw [hp0];rfl);refine zb.t ((zjA x.v []).args (.cons .refl (.cons ku .nil))) ?_;rw [hgo];refine ⟨Sg,sgE,[yU t x],rfl,Ob.o0 ?_⟩;refine ⟨_,_,_,rfl,Ob.o19 ?_⟩;refine Ar.fit dC ?_
     refine ⟨(1,some [yU t x]),⟨oM,(by rw [List.take_add_one,hx];rfl),hall⟩,(by first | exact zh [(0,some 0),(1,some 2)] | exact zh [(0,some 0),(1,some 3)] | exact zh [(0,some 0),(1,some 4)] | exact zh [(0,some 0),(1,some 5)] | exact zh [(0,some 0),(1,some 6)] | exact zh [(0,some 0),(1,some 7)] | exact zh [(0,some 0),(1,some 8)]),by dsimp only;omega⟩
   ·obtain ⟨hkl,hto,hk0⟩:=hK;refine Br.mk (fun h4=>?_) (fun h4=>?_)
    ·refine Ob.o ?_;intro p hp;have hp:(zD x)[k]? =some p:=hp;refine zb.t (zcx t p ht) ?_;refine Br.mk (fun h5=>?_) (fun h5=>?_)
     ·exact bad _ (errs 0 x p k hi0 hx hk0 hp h5)
     have h5:(kt t p).2=0:=Classical.byContradiction h5;have hk1:=(y6 hk0 hp).1 h5;refine ⟨Pt,ptE,[(kt t p).1],rfl,Ob.o0 ?_⟩;have htl:to.length=k:=by rw [hto];simp;omega
     refine ⟨_,rfl,Ob.o20 ?_⟩;refine Ar.o ?_;refine ⟨(k+1,some (to++[(kt t p).1])),⟨oM,(by rw [List.take_add_one,hp,hto];simp),hk1⟩,zh [(0,some 0),(1,some 1),(2,some 6)],by dsimp only;omega⟩
    ·have hkk:k=(zD x).length:=by omega
     subst hkk;rw [List.take_length] at hto hk0;have hgo:zeZ x.v to=yU t x:=by rw [yU,hto]
     have hall:=fin0 0 x hi0 hx hk0;refine zb.t (zjA x.v to) ?_;rw [hgo];refine ⟨Sg,sgE,[yU t x],rfl,Ob.o0 ?_⟩;refine ⟨_,_,_,rfl,Ob.o19 ?_⟩;refine Ar.fit dC ?_;refine ⟨(1,some [yU t x]),⟨oM,(by rw [List.take_add_one,hx];rfl),hall⟩,(by first | exact zh [(0,some 0),(1,some 2)] | exact zh [(0,some 0),(1,some 3)] | exact zh [(0,some 0),(1,some 4)] | exact zh [(0,some 0),(1,some 5)] | exact zh [(0,some 0),(1,some 6)] | exact zh [(0,some 0),(1,some 7)] | exact zh [(0,some 0),(1,some 8)]),by dsimp only;omega⟩
  ·have hii:0=l.length:=by omega
   have htr:kg t l=(l.map (yU t),0):=by
    rw [hii,List.take_length] at hi0;rw [kg,if_neg h1,hi0,if_neg (fun k=>k rfl)]
   exact bad 0 (by rw [htr,List.length_eq_zero_iff.1 hii.symm];rfl)
 ·obtain ⟨hil,hout,hi0⟩:=hI;refine Br.mk (fun h2=>?_) (fun h2=>?_)
  ·refine Ob.o ?_;intro x hx;have hx:l[i]? =some x:=hx;refine zb.t (zgA x) ?_;intro hl4
   refine ⟨Nat×Option (List Pt),fun q=>match q with
     | (k,none)=>⟨[(26,i64 k),(25,i64 (zD x).length),(24,.sl ptE (zD x)),(9,.val (.slice none 0 0)),(8,.loc 2 0),(19,i64 i),(18,i64 l.length),(17,.sl sgE l),(6,.own 1),(3,.loc 0 0)],[(2,.box 75 (sgE x)),(1,.arr 75 sgE 7 out),(0,.box 29 (afE t))],3,53,0⟩
     | (k,some to)=>⟨[(26,i64 k),(25,i64 (zD x).length),(24,.sl ptE (zD x)),(9,.own 3),(8,.loc 2 0),(19,i64 i),(18,i64 l.length),(17,.sl sgE l),(6,.own 1),(3,.loc 0 0)],[(3,.arr 52 ptE 2 to),(2,.box 75 (sgE x)),(1,.arr 75 sgE 7 out),(0,.box 29 (afE t))],4,53,0⟩,
    fun q=>match q with
     | (k,none)=>k=0
     | (k,some to)=>k<=(zD x).length/\to=((zD x).take k).map (fun p=>(kt t p).1)/\qi t ((zD x).take k)=0,fun q=>(zD x).length - q.1,(0,none),rfl,?_,?_⟩
   ·exact zh [(0,some 0),(1,some 1),(2,some 2)]
   have hx3:=zrB x
   rintro ⟨k,_ | to⟩ hK
   ·have hK:k=0:=hK;subst hK;have hk0:qi t ((zD x).take 0)=0:=rfl;have hkl:0<=(zD x).length:=Nat.zero_le _;refine Br.mk (fun h4=>?_) (fun h4=>?_)
    ·refine Ob.o ?_;intro p hp;have hp:(zD x)[0]? =some p:=hp;refine zb.t (zcx t p ht) ?_;refine Br.mk (fun h5=>?_) (fun h5=>?_)
     ·exact bad _ (errs i x p 0 hi0 hx hk0 hp h5)
     have h5:(kt t p).2=0:=Classical.byContradiction h5;have hk1:=(y6 hk0 hp).1 h5;refine ⟨Pt,ptE,[(kt t p).1],rfl,Ob.o0 ?_⟩;refine ⟨_,_,_,rfl,Ob.o18 ?_⟩;refine Ar.fit dC ?_;refine ⟨(1,some [(kt t p).1]),⟨oM,(by rw [List.take_add_one,hp];rfl),hk1⟩,zh [(0,some 0),(1,some 1),(2,some 2),(3,some 6)],by dsimp only;omega⟩
    ·have hp0:zD x=[]:=List.length_eq_zero_iff.1 oM;have hgo:zeZ x.v []=yU t x:=by rw [yU,hp0];rfl
     have hall:=fin0 i x hi0 hx (by rw [hp0];rfl);refine zb.t ((zjA x.v []).args (.cons .refl (.cons ku .nil))) ?_;rw [hgo];refine ⟨Sg,sgE,[yU t x],rfl,Ob.o0 ?_⟩;have hol:out.length=i:=by rw [hout];simp;omega
     refine ⟨_,rfl,Ob.o21 ?_⟩;refine Ar.o ?_;refine ⟨(i+1,some (out++[yU t x])),⟨oM,(by rw [List.take_add_one,hx,hout];simp),hall⟩,(by first | exact zh [(0,some 0),(1,some 2)] | exact zh [(0,some 0),(1,some 3)] | exact zh [(0,some 0),(1,some 4)] | exact zh [(0,some 0),(1,some 5)] | exact zh [(0,some 0),(1,some 6)] | exact zh [(0,some 0),(1,some 7)] | exact zh [(0,some 0),(1,some 8)]),by dsimp only;omega⟩
   ·obtain ⟨hkl,hto,hk0⟩:=hK;refine Br.mk (fun h4=>?_) (fun h4=>?_)
    ·refine Ob.o ?_;intro p hp;have hp:(zD x)[k]? =some p:=hp;refine zb.t (zcx t p ht) ?_;refine Br.mk (fun h5=>?_) (fun h5=>?_)
     ·exact bad _ (errs i x p k hi0 hx hk0 hp h5)
     have h5:(kt t p).2=0:=Classical.byContradiction h5;have hk1:=(y6 hk0 hp).1 h5;refine ⟨Pt,ptE,[(kt t p).1],rfl,Ob.o0 ?_⟩;have htl:to.length=k:=by rw [hto];simp;omega
     refine ⟨_,rfl,Ob.o20 ?_⟩;refine Ar.o ?_;refine ⟨(k+1,some (to++[(kt t p).1])),⟨oM,(by rw [List.take_add_one,hp,hto];simp),hk1⟩,zh [(0,some 0),(1,some 1),(2,some 2),(3,some 7)],by dsimp only;omega⟩
    ·have hkk:k=(zD x).length:=by omega
     subst hkk;rw [List.take_length] at hto hk0;have hgo:zeZ x.v to=yU t x:=by rw [yU,hto]
     have hall:=fin0 i x hi0 hx hk0;refine zb.t (zjA x.v to) ?_;rw [hgo];refine ⟨Sg,sgE,[yU t x],rfl,Ob.o0 ?_⟩;have hol:out.length=i:=by rw [hout];simp;omega
     refine ⟨_,rfl,Ob.o21 ?_⟩;refine Ar.o ?_;refine ⟨(i+1,some (out++[yU t x])),⟨oM,(by rw [List.take_add_one,hx,hout];simp),hall⟩,(by first | exact zh [(0,some 0),(1,some 2)] | exact zh [(0,some 0),(1,some 3)] | exact zh [(0,some 0),(1,some 4)] | exact zh [(0,some 0),(1,some 5)] | exact zh [(0,some 0),(1,some 6)] | exact zh [(0,some 0),(1,some 7)] | exact zh [(0,some 0),(1,some 8)]),by dsimp only;omega⟩
  ·have hii:i=l.length:=by omega
   have htr:kg t l=(l.map (yU t),0):=by
    rw [hii,List.take_length] at hi0;rw [kg,if_neg h1,hi0,if_neg (fun k=>k rfl)]
   rw [hii,List.take_length] at hout;rw [htr,← hout];exact zS .refl .refl
def part(f:Pt->Pt)(j:Nat)(s:Sg):Sg:=⟨s.v,if 1<=j then f s.a else s.a,if 2<=j then f s.b else s.b,if 3<=j then f s.c else s.c⟩
def ym(f:Pt->Pt)(s:Sg):Sg:=part f (nm s.v).toNat s
theorem zah{l:List Sg}(h:qK l):∀p∈zY l,zo p:=fun p hp=>by
 obtain ⟨s,hs,hp⟩:=List.mem_flatMap.1 hp
 have hf:zbn s:=by
  have e:=zic l;rw [← e] at hs;obtain ⟨g,hg,hsg⟩:=List.mem_flatten.1 hs;obtain ⟨k,m,mid,_,_,g3,_⟩:=zk9 h g hg;exact g3 s hsg
 have hp:=List.mem_of_mem_take hp;simp only [List.mem_cons,List.not_mem_nil,or_false] at hp
 rcases hp with rfl | rfl | rfl
 ·exact hf.1.1
 ·exact hf.2.1.1
 ·exact hf.2.2.1
theorem zrC{l:List Sg}(h:qK l){s:Sg}(hs:s∈l):zbn s:=by
 have e:=zic l;rw [← e] at hs;obtain ⟨g,hg,hsg⟩:=List.mem_flatten.1 hs;obtain ⟨k,m,mid,_,_,g3,_⟩:=zk9 h g hg;exact g3 s hsg
theorem zvm(f:Pt->Pt)(j:Nat)(s:Sg):(part f j s).v=s.v:=rfl
theorem zvn{q:List Pt}{p:Pt}(h:p∈q):((bnd mnP q).x<=p.x/\(bnd mnP q).y<=p.y)/\p.x<=(bnd mxP q).x/\p.y<=(bnd mxP q).y:=by
 cases q with
 | nil=>cases h
 | cons a r=>
  obtain ⟨_,h2,_⟩:=zn6 (a::r) a;obtain ⟨_,k2,_⟩:=zn7 (a::r) a;exact ⟨h2 p h,k2 p h⟩
theorem zm0{f:Pt->Pt}{s:Sg}(hf:zbn s)(h:∀p∈zD s,zo (f p)):zbn (ym f s):=by
 have hr:=vC s.v;obtain ⟨h1,h2,h3⟩:=hf;have mem:∀(j:Nat) (p:Pt),(j:Int) < nm s.v->[s.a,s.b,s.c][j]? =some p->p∈zD s:=fun j p hj hp=>List.mem_of_getElem? (i:=j) (by rw [zmQ hj];exact hp)
 unfold ym;refine ⟨?_,?_,?_⟩ <;> rw [zvm]
 ·show pk _ 0 (if 1<=(nm s.v).toNat then f s.a else s.a)
  by_cases e:1<=(nm s.v).toNat
  ·rw [if_pos e];exact ⟨h _ (mem 0 s.a oM rfl),fun k=>by omega⟩
  ·rw [if_neg e];exact h1
 ·show pk _ 1 (if 2<=(nm s.v).toNat then f s.b else s.b)
  by_cases e:2<=(nm s.v).toNat
  ·rw [if_pos e];exact ⟨h _ (mem 1 s.b oM rfl),fun k=>by omega⟩
  ·rw [if_neg e];exact h2
 ·show pk _ 2 (if 3<=(nm s.v).toNat then f s.c else s.c)
  by_cases e:3<=(nm s.v).toNat
  ·rw [if_pos e];exact ⟨h _ (mem 2 s.c oM rfl),fun k=>by omega⟩
  ·rw [if_neg e];exact h3
theorem zok{f:Pt->Pt}:∀{l:List Sg} {last:Int},(∀s∈l,∀p∈zD s,zo (f p))->oks last l->oks last (l.map (ym f))
 | [],_,_,_=>trivial
 | s::r,last,hp,h=>by
  obtain ⟨h1,h2⟩:=h;obtain ⟨k1,k2,k3⟩:=jv.1 h1;refine ⟨jv.2 ⟨k1,k2,zm0 k3 (hp s (.head _))⟩,zok (fun t ht=>hp t (.tail _ ht)) h2⟩
def tr(x y:Int):AF:=afQ ((1:Int):Rat) ((0:Int):Rat) ((0:Int):Rat) ((1:Int):Rat) (x:Rat) (y:Rat)
def sh(x y:Int)(p:Pt):Pt:=⟨p.x+x,p.y+y⟩
theorem zrD(x y:Int)(p:Pt):goP (tr x y) p=sh x y p:=by
 have h:∀a:Int,((a:Rat)+Rat.divInt 1 2).floor=a:=fun a=>by
  rw [Rat.add_comm,Rat.floor_add_intCast,show (Rat.divInt 1 2).floor=0 by decide +kernel,Int.zero_add]
 have e1:jX (tr x y) p.x p.y=((p.x+x:Int):Rat):=by
  unfold jX tr afQ;simp only [kE];rw [Rat.intCast_add,show ((1:Int):Rat)=1 from rfl,show ((0:Int):Rat)=0 from rfl,Rat.one_mul,Rat.zero_mul,Rat.add_zero]
 have e2:jY (tr x y) p.x p.y=((p.y+y:Int):Rat):=by
  unfold jY tr afQ;simp only [kE];rw [Rat.intCast_add,show ((1:Int):Rat)=1 from rfl,show ((0:Int):Rat)=0 from rfl,Rat.one_mul,Rat.zero_mul,Rat.zero_add]
 unfold goP;rw [e1,e2,h,h];rfl
theorem jT{n:Int}(h:R64 n):vF (n:Rat)<=256:=by
 unfold vF;rw [Rat.num_intCast,Rat.den_intCast];have h1:z7 1=1:=by decide +kernel
 have h2:z7 n.natAbs<=64:=by
  by_cases h0:n.natAbs=0
  ·rw [h0];decide
  ·have:=vv h0;unfold R64 at h;refine Nat.le_of_not_lt fun k=>?_
   have:2 ^ 64<=2 ^ (z7 n.natAbs - 1):=Nat.pow_le_pow_right dC oM;omega
 omega
theorem zut{x y:Int}(hx:R64 x)(hy:R64 y):(tr x y).ok:=by
 have a:=jT (show R64 1 by decide);have b:=jT (show R64 0 by decide);have c:=jT hx;have d:=jT hy;unfold AF.ok;simp only [okI,AF.nth,tr,afQ,kE,true_and];exact ⟨⟨⟨⟨⟨a,b⟩,b⟩,a⟩,c⟩,d⟩
theorem tr_le{x y:Int}(hx:R64 x)(hy:R64 y):(tr x y).le 100000:=by
 have k:∀n:Int,R64 n->(ofQ (n:Rat)).len<=100000:=fun n h=>by
  have h1:=uF n;have h2:=jq h;rw [zJ];omega
 exact ⟨k 1 dC,k 0 dC,k 0 dC,k 1 dC,k x hx,k y hy⟩
theorem zcy{x y:Int}(hx:R64 x)(hy:R64 y){p:Pt}(hp:zo p):kt (tr x y) p=if zo (sh x y p) then (sh x y p,0) else (zp,6):=by
 unfold kt;rw [if_neg (fun h=>h (zut hx hy)),if_neg (fun h=>h hp),zrD]
theorem zlB{x y:Int}(hx:R64 x)(hy:R64 y):∀{q:List Pt},(∀p∈q,zo p)->(qi (tr x y) q=0/\∀p∈q,zo (sh x y p))∨qi (tr x y) q=6
 | [],_=>.inl ⟨rfl,fun p h=>by cases h⟩
 | p::r,h=>by
  have hp:=zcy hx hy (h p (.head _));unfold qi
  by_cases k:zo (sh x y p)
  ·rw [hp,if_pos k,if_neg (fun h=>h rfl)]
   rcases zlB hx hy (fun p h'=>h p (.tail _ h')) with ⟨e,a⟩ | e
   ·refine .inl ⟨e,fun q hq=>?_⟩
    rcases List.mem_cons.1 hq with rfl | hq
    ·exact k
    ·exact a q hq
   ·exact .inr e
  ·rw [hp,if_neg k,if_pos dC];exact .inr rfl
theorem ztq{x y:Int}(hx:R64 x)(hy:R64 y){s:Sg}(hf:zbn s)(h:∀p∈zD s,zo p)(h':∀p∈zD s,zo (sh x y p)):yU (tr x y) s=ym (sh x y) s:=by
 have e:(zD s).map (fun p=>(kt (tr x y) p).1)=(zD s).map (sh x y):=List.map_congr_left fun p hp=>by rw [zcy hx hy (h p hp),if_pos (h' p hp)]
 unfold yU;rw [e];obtain ⟨f1,f2,f3⟩:=hf;have hr:=vC s.v;have k:nm s.v<=0∨nm s.v=1∨nm s.v=2∨nm s.v=3:=oM;unfold zD ym zeZ part
 rcases k with k | k | k | k
 ·rw [show (nm s.v).toNat=0 by omega,f1.2 oM,f2.2 oM,f3.2 oM];rfl
 ·rw [show (nm s.v).toNat=1 by omega,f2.2 oM,f3.2 oM];rfl
 ·rw [show (nm s.v).toNat=2 by omega,f3.2 oM];rfl
 ·rw [show (nm s.v).toNat=3 by omega];rfl
theorem zgU:∀{l:List Sg} {last:Int},oks last l->∀s∈l,zbn s
 | [],_,_,s,hs=>by cases hs
 | a::r,last,h,s,hs=>by
  rcases List.mem_cons.1 hs with rfl | hs
  ·exact (jv.1 h.1).2.2
  ·exact zgU h.2 s hs
def shL(x y:Int)(l:List Sg):List Sg:=l.map (ym (sh x y))
theorem zlC{x y:Int}(hx:R64 x)(hy:R64 y){l:List Sg}(h:qK l):(kg (tr x y) l=(shL x y l,0)/\∀p∈zY l,zo (sh x y p))∨kg (tr x y) l=([],6):=by
 have ho:=(yh.1 h).2;have hp:=zah h;unfold kg;rw [if_neg (fun k=>k h)]
 rcases zlB hx hy hp with ⟨e,a⟩ | e
 ·rw [e,if_neg (fun k=>k rfl)];refine .inl ⟨?_,a⟩;have:l.map (yU (tr x y))=shL x y l:=List.map_congr_left fun s hs=>ztq hx hy (zgU ho s hs) (fun p k=>hp p (List.mem_flatMap.2 ⟨s,hs,k⟩)) (fun p k=>a p (List.mem_flatMap.2 ⟨s,hs,k⟩))
  rw [this]
 ·rw [e,if_pos dC];exact .inr rfl
theorem zlD{x y:Int}(hx:R64 x)(hy:R64 y):∀{q:List Pt},(∀p∈q,zo p)->(∀p∈q,zo (sh x y p))->qi (tr x y) q=0
 | [],_,_=>rfl
 | p::r,h,k=>by
  have hp:=zcy hx hy (h p (.head _));unfold qi;rw [hp,if_pos (k p (.head _)),if_neg (fun h=>h rfl)];exact zlD hx hy (fun p h'=>h p (.tail _ h')) (fun p h'=>k p (.tail _ h'))
theorem zlE{x y:Int}(hx:R64 x)(hy:R64 y){l:List Sg}(h:qK l)(a:∀p∈zY l,zo (sh x y p)):kg (tr x y) l=(shL x y l,0):=by
 rcases zlC hx hy h with ⟨e,_⟩ | e
 ·exact e
 ·have:=zlD hx hy (zah h) a;unfold kg at e;rw [if_neg (fun k=>k h),this,if_neg (fun k=>k rfl)] at e;exact absurd (Prod.mk.inj e).2 dC
theorem zcz(p:Pt):sh 0 0 p=p:=zjB (Int.add_zero _) (Int.add_zero _)
theorem zlF(l:List Sg):shL 0 0 l=l:=by
 unfold shL
 conv=>rhs;rw [← List.map_id l]
 refine List.map_congr_left fun s _=>?_
 obtain ⟨v,a,c,d⟩:=s;unfold ym part;dsimp only [id];congr 1 <;> (split <;> simp_all [zcz])
theorem zpA{x y:Int}{l:List Sg}(h:qK l)(a:∀p∈zY l,zo (sh x y p)):qK (shL x y l):=by
 refine yh.2 ⟨by unfold shL;rw [List.length_map];exact zau h,?_⟩;exact zok (fun s hs p hp=>a p (List.mem_flatMap.2 ⟨s,hs,hp⟩)) (yh.1 h).2
end Go.Gs
