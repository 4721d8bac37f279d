/- The examples of Geometry hold. -/
import Derived.Test.YtjgadnaphffpkaaGreatDoorNA
import Derived.Test.YtjgadnaphffpkaaGreatDoorNAU
import Derived.Test.YtjgadnaphffpkaaGreatDoorNAK
import Derived.Test.YtjgadnaphffpkaaGreatDoorNAS
import Derived.Test.YtjgadnaphffpkaaGreatDoorChecked
import Derived.Test.YtjgadnaphffpkaaGreatDoorNAT
import Derived.LaidLaws
import Derived.LaidHandle
import Derived.Stop.Joined
import Derived.Test.YtjgadnaphffpkaaGreatDoorRows
set_option maxRecDepth 100000
set_option maxHeartbeats 8000000
set_option linter.all false
namespace Go.Gs
open Go.Proofs
theorem ziV(n:Nd)(h1:n.t.le 100)(h2:n.fill=[]∨n.fill=[zbj 1])(h3:n.strk=[])(h4:n.im.px=[])(h5:n.path.length<=300)(h6:n.clip.length<=300):zBw n:=by
 have hs:zd5 n.strk:=by rw[h3];exact λp hp=>by cases hp
 refine⟨h1,⟨h1.up dC,?_,hs,by rw[h4];decide⟩,h5,h6⟩;intro p hp
 rcases h2 with h2 | h2
 ·rw[h2]at hp;cases hp
 ·rw[h2,Xq]at hp;subst hp;exact⟨yD _,dC⟩
theorem zos:scl2.le 100:=by decide +kernel
theorem zbG:yr pgS:=λ_ n hn=>by
 rcases Kc.1 hn with rfl | hn
 ·exact ziV _ zos (.inl rfl) rfl rfl dC dC
 ·rw[Xq.1 hn];exact ziV _ (znD.up dC) (.inr rfl) rfl rfl (zbF 0 0 1 1) dC
theorem zk8:yr pgC:=λ_ n hn=>by
 rcases Kc.1 hn with rfl | hn
 ·exact ziV _ zos (.inl rfl) rfl rfl dC dC
 ·rw[Xq.1 hn];exact ziV _ (znD.up dC) (.inr rfl) rfl rfl (zbF 0 0 1 1) (zbF 0 0 1 1)
theorem zDh:yr zSc:=λ_ n hn=>by cases hn
theorem zy0:(jE pgS 1).map List.length=[4]/\((jE pgS 1).headD []).getD 2 zp=⟨512,512⟩:=by decide +kernel
theorem zDi:zil pgC 1=jE pgS 1/\0 < (ki pgC 1).clip.length/\¬0 < (ki pgS 1).clip.length:=by decide +kernel
theorem zAS:(zQ pgS 1).1.same scl2/\(zQ pgS 1).2=0/\(zQ pgS 2).2=8/\(zQ zSc 0).2=18:=by decide +kernel
theorem zy1:(ziw pgS 1 ⟨512,0⟩).2=0/\(ziw pgS 1 ⟨512,0⟩).1.1.v=((256:Int):Rat)/\(ziw pgS 1 ⟨512,0⟩).1.2.v=((0:Int):Rat)/\zyW pgS 1 ⟨3,4⟩=(⟨6,8⟩,0):=by decide +kernel
theorem zDj:(ziw pgS 1 ⟨512,0⟩).1.1.len<=1000/\(ziw pgS 1 ⟨512,0⟩).1.2.len<=1000:=by decide +kernel
theorem zAT:(ki pgS 1).strk=[]/\(ki pgC 1).strk=[]/\(ki pgC 1).k=2:=by decide +kernel
theorem zAU:∀l∈ut pgS 1,qi l<=4096:=by decide +kernel
theorem zy2:ze8 (zqV (ut pgS 1)) 128 128=⟨256,256⟩/\(zqV (ut pgS 1)).isSome=true:=by decide +kernel
theorem one4G{L:List (List Pt)}(h:L.map List.length=[4]):∃r,L=[r]/\r.length=4:=by
 cases L with
 | nil=>cases h
 | cons r t=>
  have h1:=List.cons.inj h;have e:t=[]:=List.map_eq_nil_iff.1 h1.2;exact⟨r,by rw[e],h1.1⟩
theorem zmS:CG0 6 [] [] (bl true) []:=by
 refine zc Tryz.func6 ?_;refine zb.fresh _ _ zDg rfl (λ_ _=>rfl) (.inl rfl)<|zb.give [0] 0 [.agg (scO pgS 0),i64 1] [(0,uV pgS.ns)] [(0,uV pgS.ns)] (.sl zh (jE pgS 1)) (zyU pgS 1 zbG) LEs.refl rfl rfl rfl ⟨⟨_,rfl,rfl,trivial⟩,trivial⟩ rfl ⟨⟨rfl,trivial⟩,trivial⟩<|zb.give [0] 0 [.agg (scO pgS 0),i64 1] [(0,uV pgS.ns)] [(0,uV pgS.ns)] (zqS (zQ pgS 1)) (zgW pgS 1 zbG) LEs.refl rfl rfl rfl ⟨⟨_,rfl,rfl,trivial⟩,trivial⟩ rfl ⟨⟨rfl,trivial⟩,trivial⟩ ?_
 refine zb.give [0] 0 [.agg (scO pgS 0),i64 2] [(0,uV pgS.ns)] [(0,uV pgS.ns)] (zqS (zQ pgS 2)) (zgW pgS 2 zbG) LEs.refl rfl rfl rfl ⟨⟨_,rfl,rfl,trivial⟩,trivial⟩ rfl ⟨⟨rfl,trivial⟩,trivial⟩<|zb.t ((zoo zSc 0 zDh).args (.cons (qF (.cons .refl (.cons .refl (.cons .refl (.cons .refl (.cons .refl (.cons .refl (.cons zD .nil)))))))) LEs.refl))<|zb.give [0] 0 [.agg (scO pgS 0),i64 1] [(0,uV pgS.ns)] [(0,uV pgS.ns)] (zk4 pgS 1) (zqT pgS 1 zbG) LEs.refl rfl rfl rfl ⟨⟨_,rfl,rfl,trivial⟩,trivial⟩ rfl ⟨⟨rfl,trivial⟩,trivial⟩ ?_
 refine zb.give [0] 0 [.agg (scO pgS 0),i64 1,.agg (ptE ⟨512,0⟩)] [(0,uV pgS.ns)] [(0,uV pgS.ns)] (zyX pgS 1 ⟨512,0⟩) (zDa pgS 1 ⟨512,0⟩ zbG) LEs.refl rfl rfl rfl ⟨⟨_,rfl,rfl,trivial⟩,trivial⟩ rfl ⟨⟨rfl,trivial⟩,trivial⟩ ?_;have hk:=zAT
 have hS:CG0 10 [.agg (scE pgS),i64 1] [] (.sl zh (uU pgS 1)) []:=by
  rw[zk6 (.inr (by rw[hk.1];rfl))];exact(zqW pgS 1 zbG (.inr (by rw[hk.1];rfl))).le zD
 refine zb.t (zeK pgS 1 128 128 zbG hS zAU)<|zb.t (w_ntp pgS 1 ⟨3,4⟩ zbG) ?_;have hc:=zy1;have hw:=zAS;have ha:=zy2;have hx:=zDi;have r256:R64 256:=dC;have r0:R64 0:=dC;refine Dr.d<|Br.mk (λk=>absurd hc.1 k) (λ_=>?_);refine zb.t (jm 256 r256) ?_;have l256:=zbn r256;have l0:=zbn r0;have hl:=zDj;have q1:=znC (ziw pgS 1 ⟨512,0⟩).1.1 (ofQ ((256:Int):Rat)) oM oM;have q2:=znC (ziw pgS 1 ⟨512,0⟩).1.2 (ofQ ((0:Int):Rat)) oM oM;rw[hc.2.1,z6,show zhi ((256:Int):Rat) ((256:Int):Rat)=0 from q9.2 rfl]at q1
 rw[hc.2.2.1,z6,show zhi ((0:Int):Rat) ((0:Int):Rat)=0 from q9.2 rfl]at q2;refine zb.t q1<|Br.mk (λk=>absurd rfl k) (λ_=>?_);refine zb.t (jm 0 r0)<|zb.t q2<|Br.mk (λk=>absurd rfl k) (λ_=>?_);refine⟨λk=>absurd ha.2 k,λ_=>?_⟩;refine⟨λk=>absurd (k9.2 ha.1) k,λ_=>?_⟩;refine⟨λk=>absurd (congrArg Prod.snd hc.2.2.2) k,λ_=>?_⟩;refine Ob.mk (by kernel_rfl)<|⟨λk=>absurd (k9.2 (congrArg Prod.fst hc.2.2.2)) k,λ_=>?_⟩
 have i1:(0:Int)<=1/\(1:Int) < (([nd0,nd1]:List Nd).length:Int):=dC;refine Dr.d<|Ob.mk i1<|Ob.mk i1 ?_;intro y hy;have hy:y=nd1:=(Xi hy).symm;refine Ob.mk i1<|Ob.mk i1 ?_;intro z hz;have hz:z=nd1:=(Xi hz).symm;refine⟨nd1c,by rw[hz,hy];rfl,?_⟩;refine Ob.mk (by kernel_rfl)<|Ob.mk i1<|Ob.mk i1 ?_;intro z2 hz2;have hz2:z2=nd1c:=(Xi hz2).symm;refine⟨nd1d,by rw[hz2];rfl,?_⟩
 refine zb.give [0] 0 [.agg (scO pgC 0),i64 1] [(0,uV pgC.ns)] [(0,uV pgC.ns)] (zk4 pgC 1) (zqT pgC 1 zk8) LEs.refl rfl rfl rfl ⟨⟨_,rfl,rfl,trivial⟩,trivial⟩ rfl ⟨⟨rfl,trivial⟩,trivial⟩ ?_;obtain⟨r,hr,hr4⟩:=one4G zy0.1;have hr2:=zy0.2;rw[hr]at hr2;have hr2:r.getD 2 zp=⟨512,512⟩:=hr2;have i0:(0:Int)<=0/\(0:Int) < (jE pgS 1).length:=by rw[hr];exact⟨KB _,show(0:Int) < 1 by decide⟩
 refine Dr.d ?_;intro hl0;refine⟨λ_=>?_,λk=>absurd (by rw[hr];rfl) k⟩;refine Ob.mk i0 ?_;intro a ha0
 have ha0:a=r:=by
  have ha0:(jE pgS 1)[0]? =some a:=ha0;rw[hr]at ha0;exact(Xi ha0).symm
 intro hl1;refine⟨λ_=>?_,λk=>absurd (by rw[ha0,hr4];rfl) k⟩;refine Ob.mk i0 ?_;intro b hb0
 have hb0:b=r:=by
  have hb0:(jE pgS 1)[0]? =some b:=hb0;rw[hr]at hb0;exact(Xi hb0).symm
 refine Ob.mk (by rw[hb0,hr4];decide) ?_;intro q hq
 have hq:q=⟨512,512⟩:=by
  have hq:b[2]? =some q:=hq;rw[hb0]at hq;rw[← hr2,Xt,hq];rfl
 refine⟨λ_=>?_,λk=>absurd (k9.2 hq) k⟩;have j0:(0:Int)<=0/\(0:Int) < (([nd0,nd1]:List Nd).length:Int):=dC;refine Ob.mk j0<|Ob.mk j0 ?_;intro n hn;have hn:n=nd0:=(Xi hn).symm;have he:=zlZ (zQ pgS 1).1 n.t ((yR pgS 1).up dC) (by rw[hn];exact zos.up dC);refine zb.t he<|Br.mk (λ_=>?_) (λk=>absurd (by rw[hn];exact hw.1) k);refine⟨λ_=>?_,λk=>absurd hw.2.1 k⟩;refine⟨λ_=>?_,λk=>absurd hw.2.2.1 k⟩;refine⟨λ_=>?_,λk=>absurd hw.2.2.2 k⟩
 refine⟨λ_=>?_,λk=>absurd hx.2.2 k⟩;refine⟨λ_=>?_,λk=>absurd hx.2.1 k⟩;refine zb.t (zCn (zil pgC 1) (jE pgS 1))<|⟨λ_=>?_,λk=>absurd hx.1 k⟩;refine zb.t (zqW pgC 1 zk8 (.inr (by rw[hk.2.1];rfl)))<|⟨λ_=>?_,λk=>absurd rfl k⟩;refine zb.t (zAR pgC 1 zk8 (by rw[hk.2.2];decide))<|⟨λ_=>?_,λk=>absurd rfl k⟩;exact Ob.mk (by kernel_rfl)<|.refl
def ltP(p:Pnt):Prop:=p.t.le 12/\p.st.length<=30/\p.im.px.length<=300
instance (p:Pnt):Decidable (ltP p):=inferInstanceAs (Decidable (_/\_))
def ltN(n:Nd):Prop:=(n.path.length<=24/\n.clip.length<=24/\n.pen.d.length<=20/\n.im.px.length<=300/\n.t.le 12/\n.fill.length<=3/\n.strk.length<=3)/\∀p∈n.fill++n.strk,ltP p
instance (n:Nd):Decidable (ltN n):=inferInstanceAs (Decidable (_/\_))
def ltS(s:Sc):Prop:=¬(8 < s.ns.length/\s.ns.length<=64)/\∀n∈s.ns.take 65,ltN n
instance (s:Sc):Decidable (ltS s):=inferInstanceAs (Decidable (_/\_))
theorem zAV{s:Sc}(h:ltS s):yr s:=λhl n hn=>by
 have hn:ltN n:=h.2 n (by rw[Xf oM];exact hn);obtain⟨⟨h1,h2,h3,h4,h5,h6,h7⟩,h8⟩:=hn
 have hp:∀p∈n.fill++n.strk,p.t.le 1000/\p.im.px.length<=9223372036854775807:=λp hp=>by
  obtain⟨g1,_,g3⟩:=h8 p hp;exact⟨g1.up dC,oM⟩
 exact⟨h5.up dC,⟨h5.up dC,λp q=>hp p (Qn _ q),λp q=>hp p (QH _ q),oM⟩,oM,oM⟩
theorem zy3(s:Sc):CG0 5 [.agg (scE s)] [] (pr (ltS s)) []:=by
 refine zc Tryz.func5 ?_;intro hl0;refine⟨λg1=>?_,λg1=>?_⟩
 all_goals first
  | (intro hl1;refine⟨λg2=>zd λk=>k.1 ⟨oM,oM⟩,λg2=>?_⟩;have h0:¬(8 < s.ns.length/\s.ns.length<=64):=λk=>g2 (by have:=k.2;omega))
  | have h0:¬(8 < s.ns.length/\s.ns.length<=64):=λk=>g1 (by have:=k.1;omega)
 all_goals
  refine⟨Nat,λi=>⟨[(3,i64 (i:Int)),(1,.loc 0 0)],[(0,.box 26 (scE s))],1,114,0⟩,λi=>i<=(s.ns.take 65).length/\∀n∈(s.ns.take 65).take i,ltN n,λi=>(s.ns.take 65).length - i,0,⟨Xe _,λn hn=>by cases hn⟩,?_,?_⟩
  ·exact zf [0]
  have htl:(s.ns.take 65).length=min 65 s.ns.length:=Xk
  rintro i ⟨h1,h2⟩
  have fin:¬((i:Int) < s.ns.length/\(i:Int)<=64)->LE (bl true) (pr (ltS s)):=λh=>zR ⟨h0,λn hn=>h2 n (by rw[Xf oM];exact hn)⟩
  intro hl2;refine⟨λg=>?_,λg=>fin λk=>g k.1⟩;have g:(i:Int) < s.ns.length:=g;refine⟨λg'=>?_,λg'=>fin λk=>g' k.2⟩;have g':(i:Int)<=64:=g';refine Ob.o ?_;intro x hx;have hx:s.ns[i]? =some x:=hx;have hx2:(s.ns.take 65)[i]? =some x:=by rw[Xv,if_pos oM];exact hx
  have bad:¬ltN x->LE (bl false) (pr (ltS s)):=λh=>zd λk=>h (k.2 x (Xd hx2))
  intro a0;refine⟨λk=>bad λq=>by have:=q.1.1;omega,λb1=>?_⟩;intro a1;refine⟨λk=>bad λq=>by have:=q.1.2.1;omega,λb2=>?_⟩;intro a2;refine⟨λk=>bad λq=>by have:=q.1.2.2.1;omega,λb3=>?_⟩;intro a3;refine⟨λk=>bad λq=>by have:=q.1.2.2.2.1;omega,λb4=>?_⟩;refine zb.t (zt5 x.t)<|⟨λk=>bad λq=>k q.1.2.2.2.2.1,λb5=>?_⟩;intro a5;refine⟨λk=>bad λq=>by have:=q.1.2.2.2.2.2.1;omega,λb6=>?_⟩;intro a6
  refine⟨λk=>bad λq=>by have:=q.1.2.2.2.2.2.2;omega,λb7=>?_⟩
  have ok1:x.path.length<=24/\x.clip.length<=24/\x.pen.d.length<=20/\x.im.px.length<=300/\x.t.le 12/\x.fill.length<=3/\x.strk.length<=3:=
   ⟨oM,oM,oM,oM,Xa.1 b5,oM,oM⟩
  refine Dr.d<|⟨Pnt,vf,[],rfl,Ob.o2 ?_⟩;refine⟨x.fill,rfl,Ob.mk ⟨by show(((0:Nat):Int)+(x.fill.length:Int))*_<=_;dsimp only;omega,by show 0+x.fill.length<=_;omega,dC,λ_ _=>rfl⟩ ?_⟩;refine⟨x.strk,rfl,Ob.mk ⟨by show((([]++x.fill:List Pnt).length:Int)+(x.strk.length:Int))*_<=_;rw[K5];dsimp only;omega,by rw[K5];omega,dC,λ_ _=>rfl⟩ ?_⟩;refine Ob.mk (by kernel_rfl) ?_;rw[K5];generalize hP:x.fill++x.strk=P;have hPl:P.length<=6:=by rw[← hP,Xj];omega
  refine⟨Nat,λj=>⟨[(6,i64 (j:Int)),(5,.own 2),(4,.loc 1 0),(3,i64 (i:Int)),(1,.loc 0 0)],[(2,.arr 59 vf 40 P),(1,.box 55 (ndE x)),(0,.box 26 (scE s))],3,114,0⟩,λj=>j<=P.length/\∀p∈P.take j,ltP p,λj=>P.length - j,0,⟨Xe _,λp hp=>by cases hp⟩,?_,?_⟩
  ·exact zf [0,1,4]
  rintro j ⟨j1,j2⟩
  intro c0;refine⟨λq=>?_,λq=>?_⟩
  ·have q:(j:Int) < P.length:=q;refine Ob.o<|Ob.o ?_;intro p hp;have hp:P[j]? =some p:=hp;have hm:p∈x.fill++x.strk:=by rw[hP];exact Xd hp
   have badp:¬ltP p->LE (bl false) (pr (ltS s)):=λh=>bad λk=>h (k.2 p hm)
   refine zb.t (zt5 p.t)<|⟨λk=>badp λw=>k w.1,λd1=>?_⟩;refine Ob.o<|Ob.o ?_;intro p2 hp2;have e2:p2=p:=Xi ((show P[j]? =some p2 from hp2).symm.trans hp);rw[e2];intro c1;refine⟨λk=>badp λw=>by have:=w.2.1;omega,λd2=>?_⟩;refine Ob.o<|Ob.o ?_;intro p3 hp3;have e3:p3=p:=Xi ((show P[j]? =some p3 from hp3).symm.trans hp);rw[e3];intro c2;refine⟨λk=>badp λw=>by have:=w.2.2;omega,λd3=>?_⟩;refine Ar.o ?_
   have okp:ltP p:=⟨Xa.1 d1,oM,oM⟩;refine⟨j+1,⟨oM,λw hw=>?_⟩,zf [0,1,2],by dsimp only;omega⟩;rw[Xm,hp]at hw
   rcases Xo.1 hw with hw | hw
   ·exact j2 w hw
   ·rw[show w=p by simpa using hw];exact okp
  ·have q:¬(j:Int) < P.length:=q;rw[Xf oM]at j2;refine Ar.o<|⟨i+1,⟨oM,λw hw=>?_⟩,zf [0],by dsimp only;omega⟩;rw[Xm,hx2]at hw
   rcases Xo.1 hw with hw | hw
   ·exact h2 w hw
   ·rw[show w=x by simpa using hw];exact⟨ok1,by rw[hP];exact j2⟩
variable{rs:List (List Pt)}
theorem zy4{t:AF}(h:(yl rs t).2≠0):(yl rs t).1=[]:=by
 unfold yl at h ⊢
 by_cases h1:¬kw rs
 ·rw[if_pos h1]
 rw[if_neg h1]at h ⊢
 by_cases h2:zdd t rs≠0
 ·rw[if_pos h2]
 rw[if_neg h2]at h;exact absurd rfl h
variable{l:List Sg}{pen:Pen}{tol:Int}
theorem zt7{t:AF}(h:(vZ l pen t tol).2≠0):(vZ l pen t tol).1=[]:=by
 unfold vZ at h ⊢
 by_cases h1:¬kI pen
 ·rw[if_pos h1]
 rw[if_neg h1]at h ⊢
 by_cases h2:(zV l tol).2≠0
 ·rw[if_pos h2]
 rw[if_neg h2]at h ⊢
 by_cases h3:(jD (zV l tol).1 pen).2≠0
 ·rw[if_pos h3]
 rw[if_neg h3]at h ⊢
 by_cases h4:(qw (jD (zV l tol).1 pen).1 pen).2≠0
 ·rw[if_pos h4]
 rw[if_neg h4]at h ⊢;exact zy4 h
def zc6(r:AF×Int)(l:List Sg)(pen:Pen):List (List Pt):=if r.2≠0 then[] else(vZ l pen r.1 32).1
theorem zy5(r:AF×Int)(l:List Sg)(pen:Pen)(ht:r.1.le 100):CG0 29 [.agg (afE r.1++[pr (r.2=0)]),.sl sgE l,.agg (jo pen)] [] (.sl zh (zc6 r l pen)) []:=by
 refine zc Tryz.func29 ?_;refine⟨λh=>by rw[show zc6 r l pen=[] from if_pos h];exact zD,λh=>?_⟩;have e:zc6 r l pen=(vZ l pen r.1 32).1:=if_neg h;refine zb.t (zvD l pen r.1 32 (ht.up dC)) ?_;rw[e];exact⟨λk=>by rw[zt7 k];exact zD,λ_=>.refl⟩
theorem zot(s:Sc)(i:Int)(ht:yr s):CG0 10 [.agg (scE s),i64 i] [] (.sl zh (uU s i)) []:=by
 refine zc Tryz.func10 ?_;refine zb.t (zk3 s i ht)<|⟨λh=>by rw[zk6 (.inl h)];exact zD,λh1=>?_⟩;intro hl0;refine⟨λh=>by rw[zk6 (.inr oM)];exact zD,λh2=>?_⟩;refine zb.t (zy5 (zQ s i) (ki s i).path (ki s i).pen (yR s i)) ?_;rw[show uU s i=zc6 (zQ s i) (ki s i).path (ki s i).pen from if_neg λk=>k.elim h1 λq=>h2 oM];exact .refl
theorem zhS{s:Sc}{i:Int}(h:(zQ s i).2=0):inS s i:=v8.2 λk=>by rw[h]at k;exact absurd k dC
theorem zAW(s:Sc)(i:Int)(ht:yr s):CG0 9 [.agg (scE s),i64 i] [] (.sl zh (jE s i)) []:=by
 refine zc Tryz.func9 ?_;refine zb.t (zop s i ht) ?_;have nil:jE s i=[]->LE (.val (.slice none 0 0)) (.sl zh (jE s i)):=λh=>by rw[h];exact zD
 refine⟨λh=>nil ?_,λh1=>?_⟩
 ·unfold jE uC;rw[if_pos (show(zQ s i).2≠0 from h)];split <;> rfl
 have h1:(zQ s i).2=0:=Xa.1 h1;have hin:=zhS h1;obtain⟨n,hn⟩:=zap hin;have hi:=(Xc.1 hn).1;have hi0:=hin.2;have en:=zeJ hin hn;have get:∀x,s.ns[i.toNat]? =some x->x=n:=λx hx=>Xi (hx.symm.trans hn)
 refine Ob.o ?_;intro x hx;rw[get x hx];refine⟨λh=>nil ?_,λh2=>?_⟩
 ·exact if_pos (.inl (by rw[en];exact h))
 have h2:n.k=2:=Xa.1 h2;refine Ob.o ?_;intro x hx;rw[get x hx];intro _;refine⟨λh=>nil ?_,λh3=>?_⟩
 ·have h:(n.fill.length:Int)=0:=h;exact if_pos (.inr (by rw[en];omega))
 have h3:¬(n.fill.length:Int)=0:=h3;refine Dr.k<|Ob.o ?_;intro x hx;rw[get x hx];refine zb.t (ztN n.path (zQ s i).1 32 ((yR s i).up dC)) ?_
 have e:jE s i=(yq n.path (zQ s i).1 32).1:=by
  unfold jE uC;rw[en,if_neg (λk=>k.elim (λk=>k h2) λk=>h3 oM),if_neg (λk=>k h1)]
 rw[e];exact .refl
theorem zAX(s:Sc)(i:Int)(ht:yr s):CG0 11 [.agg (scE s),i64 i] [] (.sl zh (uU s i)) []:=by
 refine zc Tryz.func11 ?_;refine zb.t (zop s i ht) ?_;have nil:uU s i=[]->LE (.val (.slice none 0 0)) (.sl zh (uU s i)):=λh=>by rw[h];exact zD
 refine⟨λh=>nil ?_,λh1=>?_⟩
 ·unfold uU;rw[if_pos (show(zQ s i).2≠0 from h)];split <;> rfl
 have h1:(zQ s i).2=0:=Xa.1 h1;have hin:=zhS h1;obtain⟨n,hn⟩:=zap hin;have hi:=(Xc.1 hn).1;have hi0:=hin.2;have en:=zeJ hin hn;have get:∀x,s.ns[i.toNat]? =some x->x=n:=λx hx=>Xi (hx.symm.trans hn)
 refine Ob.o ?_;intro x hx;rw[get x hx];refine⟨λh=>nil ?_,λh2=>?_⟩
 ·exact if_pos (.inl (by rw[en];exact h))
 have h2:n.k=2:=Xa.1 h2;refine Ob.o ?_;intro x hx;rw[get x hx];intro _;refine⟨λh=>nil ?_,λh3=>?_⟩
 ·have h:(n.strk.length:Int)=0:=h;exact if_pos (.inr (by rw[en];omega))
 have h3:¬(n.strk.length:Int)=0:=h3;refine Dr.k<|Ob.o ?_;intro x hx;rw[get x hx];refine Ob.o ?_;intro x hx;rw[get x hx];refine zb.t (zvE n.path n.pen (zQ s i).1 32 ((yR s i).up dC)) ?_
 have e:uU s i=(vZ n.path n.pen (zQ s i).1 32).1:=by
  unfold uU;rw[en,if_neg (λk=>k.elim (λk=>k h2) λk=>h3 oM),if_neg (λk=>k h1)]
 rw[e];exact .refl
theorem zDk(s:Sc)(i:Int)(ht:yr s):CG0 13 [.agg (scE s),i64 i] [] (.sl zh (zci s i)) []:=by
 refine zc Tryz.func13 ?_;refine zb.t (zop s i ht) ?_;have nil:zci s i=[]->LE (.val (.slice none 0 0)) (.sl zh (zci s i)):=λh=>by rw[h];exact zD
 refine⟨λh=>nil ?_,λh1=>?_⟩
 ·unfold zci uC;rw[if_pos (show(zQ s i).2≠0 from h)];split <;> rfl
 have h1:(zQ s i).2=0:=Xa.1 h1;have hin:=zhS h1;obtain⟨n,hn⟩:=zap hin;have hi:=(Xc.1 hn).1;have hi0:=hin.2;have en:=zeJ hin hn;have get:∀x,s.ns[i.toNat]? =some x->x=n:=λx hx=>Xi (hx.symm.trans hn)
 refine Ob.o ?_;intro x hx;rw[get x hx];refine⟨λh=>nil ?_,λh2=>?_⟩
 ·exact if_pos (by rw[en];exact h)
 have h2:n.k=3:=Xa.1 h2;refine Dr.k<|Ob.o ?_;intro x hx;rw[get x hx];refine Ob.o ?_;intro x hx;rw[get x hx];refine zb.t (zh9 0 0 n.im.w n.im.h)<|zb.t (ztN (vJ 0 0 n.im.w n.im.h) (zQ s i).1 32 ((yR s i).up dC)) ?_
 have e:zci s i=(yq (vJ 0 0 n.im.w n.im.h) (zQ s i).1 32).1:=by
  unfold zci uC;rw[en,if_neg (λk=>k h2),if_neg (λk=>k h1)]
 rw[e];exact .refl
variable{row:List SV}{α:Type}{ys:List α}
theorem zAY{c k:Nat}{enc:α->List SV}(hr:row[c]? =some (.own k))(j:Nat)(s':SV)(h:(row.set c (.sl enc ys))[j]? =some s'):
  ∃s,row[j]? =some s/\(s'=s∨(s=.own k/\s'=.sl enc ys)):=by
 rw[Kf]at h
 by_cases e:c=j
 ·subst e;rw[if_pos rfl]at h
  by_cases q:c < row.length
  ·rw[if_pos q]at h;exact⟨_,hr,.inr ⟨rfl,(Xi h).symm⟩⟩
  ·rw[if_neg q]at h;cases h
 ·rw[if_neg e]at h;exact⟨s',h,.inl rfl⟩
theorem zqX {σ:St} (k k0 c:Nat) {T T0:TypeId}{enc:α->List SV} {sz sz0:Nat}{L:List (List SV)}(hk:zX σ.M k=some (.arr T enc sz ys))
  (h0:zX σ.M k0=some (.garr T0 sz0 (L++[row]))) (hr:row[c]? =some (.own k)) (hL:∀x∈L,x.length=sz0) (hw:row.length=sz0):
  Sub σ ⟨σ.L,qM (qn σ.M k) k0 (.garr T0 sz0 (L++[row.set c (.sl enc ys)])),σ.nk,σ.nt,σ.n0⟩:=by
 refine zby k k0 hk h0 (xs':=L++[row.set c (.sl enc ys)]) (by simp) (λx hx=>?_) (λi j x' s' hx hs=>?_)
 ·rcases Xo.1 hx with hx | hx
  ·exact hL x hx
  ·rw[Xq.1 hx,X0];exact hw
 ·rw[XM]at hx
  by_cases q:i < L.length
  ·rw[if_pos q]at hx;exact⟨x',s',by rw[XM,if_pos q];exact hx,hs,.inl rfl⟩
  ·rw[if_neg q]at hx
   have hi:i - L.length=0:=by
    have:=(Xc.1 hx).1;simp at this;omega
   rw[hi]at hx;have hx:x'=row.set c (.sl enc ys):=(Xi hx).symm;rw[hx]at hs;obtain⟨s,h1,h2⟩:=zAY hr j s' hs;exact⟨row,s,by rw[XM,if_neg q,hi];rfl,h1,h2⟩
theorem zim{t:AF}:∀{q:List Pt},jb t q=0->∀p∈q,(kv t p).2=0
 | p::r,h,z,hz=>by
  unfold jb at h
  by_cases k:(kv t p).2=0
  ·rw[if_neg (λq=>q k)]at h
   cases hz with
   | head=>exact k
   | tail _ hz=>exact zim h z hz
  ·rw[if_pos k]at h;exact absurd h k
theorem zqY{t:AF}{p:Pt}(h:(kv t p).2=0):zn (goP t p):=by
 unfold kv at h
 by_cases h1:t.ok
 ·rw[if_neg (λk=>k h1)]at h
  by_cases h2:zn p
  ·rw[if_neg (λk=>k h2)]at h
   by_cases h3:zn (goP t p)
   ·exact h3
   ·rw[if_neg h3]at h;exact absurd h dC
  ·rw[if_pos h2]at h;exact absurd h dC
 ·rw[if_pos h1]at h;exact absurd h dC
theorem zsq{t:AF}(h:(trans t l).2=0):qU l/\(∀p∈qj l,(kv t p).2=0)/\(trans t l).1=l.map (ze1 λp=>(kv t p).1):=by
 unfold trans at h ⊢
 by_cases h1:¬qU l
 ·rw[if_pos h1]at h;exact absurd h dC
 rw[if_neg h1]at h ⊢
 by_cases h2:jb t (qj l)≠0
 ·rw[if_pos h2]at h;exact absurd h h2
 rw[if_neg h2];have hv:qU l:=Xa.1 h1;refine⟨hv,zim (Xa.1 h2),?_⟩;exact Qv λs hs=>zmE t (zkj (zaQ.1 hv).2 s hs)
variable{w:AF×Int}
theorem zvM(h:uC w l≠[]):w.2=0/\(yq l w.1 32).2=0/\uC w l=(yq l w.1 32).1:=by
 unfold uC at h ⊢
 by_cases c:w.2≠0
 ·rw[if_pos c]at h;exact absurd rfl h
 ·rw[if_neg c]at h ⊢;exact⟨Xa.1 c,Xa.1 λk=>h (zqJ k),rfl⟩
theorem zvN(h:zc6 w l pen≠[]):w.2=0/\(vZ l pen w.1 32).2=0/\zc6 w l pen=(vZ l pen w.1 32).1:=by
 unfold zc6 at h ⊢
 by_cases c:w.2≠0
 ·rw[if_pos c]at h;exact absurd rfl h
 ·rw[if_neg c]at h ⊢;exact⟨Xa.1 c,Xa.1 λk=>h (zt7 k),rfl⟩
theorem zqZ(s:Sc)(i:Int):uU s i=if (ki s i).k≠2∨(ki s i).strk.length=0 then[] else zc6 (zQ s i) (ki s i).path (ki s i).pen:=rfl
theorem zvO{t:AF}(h:(yq l t tol).2=0):kw (yq l t tol).1:=by
 have ht:(trans t l).2=0:=by
  refine Xa.1 λk=>?_
  unfold yq at h;rw[if_pos k]at h;exact k h
 obtain⟨v1,p1,e1⟩:=zsq ht
 obtain⟨f1,f2⟩:=zrV (lo:=⟨-1048576,-1048576⟩) (hi:=⟨1048576,1048576⟩) h (λp hp=>by
  rw[e1,zzV]at hp;obtain⟨z,hz,rfl⟩:=XO.1 hp;rw[zmR (p1 z hz)]
  exact zqY (p1 z hz))
 exact⟨oM,λr hr p hp=>f2 r hr p hp⟩
theorem zt8(f:Pt->Pt):∀rs:List (List Pt),qi (rs.map (List.map f))=qi rs
 | []=>rfl
 | r::rs=>by
  have ih:=zt8 f rs;unfold qi at ih ⊢;simp only[Q1,Q2,Xz];rw[ih]
theorem zvP{t:AF}(h:(yl rs t).2=0):kw (yl rs t).1:=by
 have e:=zso h
 have hr:kw rs/\zdd t rs=0:=by
  unfold yl at h
  by_cases k:kw rs
  ·rw[kQ k]at h
   by_cases q:zdd t rs=0
   ·exact⟨k,q⟩
   ·rw[if_pos q]at h;exact absurd h q
  ·rw[if_pos k]at h;exact absurd h dC
 rw[e];refine⟨by rw[zt8];exact hr.1.1,λr hr2 p hp=>?_⟩;obtain⟨r0,hr0,rfl⟩:=XO.1 hr2;obtain⟨p0,hp0,rfl⟩:=XO.1 hp;exact zqY (zhQ (zhR hr.2 r0 hr0) p0 hp0)
theorem zy6{t:AF}(h:(vZ l pen t tol).2=0):kw (vZ l pen t tol).1:=by
 unfold vZ at h ⊢
 by_cases a1:¬kI pen
 ·rw[if_pos a1]at h;exact absurd h dC
 rw[if_neg a1]at h ⊢
 by_cases a2:(zV l tol).2≠0
 ·rw[if_pos a2]at h;exact absurd h a2
 rw[if_neg a2]at h ⊢
 by_cases a3:(jD (zV l tol).1 pen).2≠0
 ·rw[if_pos a3]at h;exact absurd h a3
 rw[if_neg a3]at h ⊢
 by_cases a4:(qw (jD (zV l tol).1 pen).1 pen).2≠0
 ·rw[if_pos a4]at h;exact absurd h a4
 rw[if_neg a4]at h ⊢;exact zvP h
theorem zaT:kw []:=⟨by show((0:Nat):Int)<=4096;decide,λr hr=>by cases hr⟩
theorem zcj(w:AF×Int)(l:List Sg):kw (uC w l):=by
 by_cases h:uC w l=[]
 ·rw[h];exact zaT
 ·obtain⟨_,a2,a3⟩:=zvM h;rw[a3];exact zvO a2
theorem zmT(w:AF×Int)(l:List Sg)(pen:Pen):kw (zc6 w l pen):=by
 by_cases h:zc6 w l pen=[]
 ·rw[h];exact zaT
 ·obtain⟨_,a2,a3⟩:=zvN h;rw[a3];exact zy6 a2
theorem zk9(s:Sc)(i:Int):∀l∈ut s i,kw l:=λl hl=>by
 have h:l=jE s i∨l=uU s i∨l=zci s i:=by simpa[ut] using hl
 rcases h with rfl | rfl | rfl
 ·unfold jE;split
  ·exact zaT
  ·exact zcj _ _
 ·rw[zqZ];split
  ·exact zaT
  ·exact zmT _ _ _
 ·unfold zci;split
  ·exact zaT
  ·exact zcj _ _
theorem zvQ{t:AF}:(yq l t tol).1.length<=100000:=by
 unfold yq
 split
 ·exact Xe _
 split
 ·exact Xe _
 ·have h3:=zkm (zV (trans t l).1 tol).1;have h4:=(zam (trans t l).1 tol).1;show(uk (zV (trans t l).1 tol).1).length<=100000;omega
theorem zvR(rs:List (List Pt))(t:AF):(yl rs t).1.length<=rs.length:=by
 unfold yl
 split
 ·exact Xe _
 split
 ·exact Xe _
 ·show(rs.map (y4 t)).length<=_;rw[Xz];exact Xh _
theorem zy7{t:AF}:(vZ l pen t tol).1.length<=100000:=by
 have sm:=(zbl (jD (zV l tol).1 pen).1 pen).1;have h:=zvR (qw (jD (zV l tol).1 pen).1 pen).1 t;unfold vZ
 split
 ·exact Xe _
 split
 ·exact Xe _
 split
 ·exact Xe _
 split
 ·exact Xe _
 ·omega
theorem zla(w:AF×Int)(l:List Sg):(uC w l).length<=100000:=by
 unfold uC
 split
 ·exact Xe _
 ·exact zvQ
theorem zy8(w:AF×Int)(l:List Sg)(pen:Pen):(zc6 w l pen).length<=100000:=by
 unfold zc6
 split
 ·exact Xe _
 ·exact zy7
theorem zy9(s:Sc)(k:Int):(kw (jE s k)/\(jE s k).length<=100000)/\(kw (uU s k)/\(uU s k).length<=100000)/\(kw (zci s k)/\(zci s k).length<=100000)/\(kw (zil s k)/\(zil s k).length<=100000):=by
 have z:kw []/\([]:List (List Pt)).length<=100000:=⟨zaT,Xe _⟩;refine⟨?_,?_,?_,?_⟩
 ·unfold jE;split
  ·exact z
  ·exact⟨zcj _ _,zla _ _⟩
 ·rw[zqZ];split
  ·exact z
  ·exact⟨zmT _ _ _,zy8 _ _ _⟩
 ·unfold zci;split
  ·exact z
  ·exact⟨zcj _ _,zla _ _⟩
 ·unfold zil;split
  ·exact z
  ·exact⟨zcj _ _,zla _ _⟩
theorem zou(p:Pt):mnP p p=p:=by unfold mnP;rw[Int.min_self,Int.min_self]
theorem zov(p:Pt):mxP p p=p:=by unfold mxP;rw[Int.max_self,Int.max_self]
theorem zq0(p q r:Pt):mnP (mnP p q) r=mnP p (mnP q r):=by unfold mnP;dsimp only;rw[Int.min_assoc,Int.min_assoc]
theorem zq1(p q r:Pt):mxP (mxP p q) r=mxP p (mxP q r):=by unfold mxP;dsimp only;rw[Int.max_assoc,Int.max_assoc]
theorem zlb{f:Pt->Pt->Pt}(hf:∀p q r,f (f p q) r=f p (f q r)):∀(l:List Pt) (a b:Pt),l.foldl f (f a b)=f a (l.foldl f b)
 | [],_,_=>rfl
 | c::l,a,b=>by rw[Kw,Kw,hf,zlb hf l a (f b c)]
variable{f:Pt->Pt->Pt}{q:List Pt}{r:List Pt}
theorem ziW(hf:∀p q r,f (f p q) r=f p (f q r))(hs:∀p,f p p=p)(hq:q≠[])(hr:r≠[]):bnd f (q++r)=f (bnd f q) (bnd f r):=by
 cases q with
 | nil=>exact absurd rfl hq
 | cons a q=>
  cases r with
  | nil=>exact absurd rfl hr
  | cons b r=>
   have e:∀(c:Pt) (l:List Pt),bnd f (c::l)=l.foldl f c:=λc l=>by
    show(c::l).foldl f c=_;rw[Kw,hs]
   rw[QN,e,e,e,KC,Kw,zlb hf]
def zlc(q:List Pt):Option (Pt×Pt):=if q=[] then none else some (bnd mnP q,bnd mxP q)
theorem zAZ(h:kw rs):zbo (zlc q) rs=zlc (q++rs.flatten):=by
 unfold zbo
 by_cases hs:rs.flatten=[]
 ·rw[if_pos (λk=>k.1 hs),hs,Xy]
 ·have sg:zaC rs:=⟨hs,h⟩;rw[if_neg (λk=>k sg)];have e1:loR rs=bnd mnP rs.flatten:=if_pos sg;have e2:hiR rs=bnd mxP rs.flatten:=if_pos sg;rw[e1,e2];unfold zlc;rw[if_neg (show ¬q++rs.flatten=[] from λe=>hs (J4.1 e).2)]
  by_cases hq:q=[]
  ·subst hq;rw[if_pos rfl];show some (mnP _ _,mxP _ _)=_;rw[zou,zov,K5]
  ·rw[if_neg hq,ziW zq0 zou hq hs,ziW zq1 zov hq hs]
theorem zt9:∀(L:List (List (List Pt))) (q:List Pt),(∀l∈L,kw l)->L.foldl zbo (zlc q)=zlc (q++L.flatten.flatten)
 | [],q,_=>by show zlc q=_;rw[QO,QO,Xy]
 | l::L,q,h=>by
  rw[Kw,zAZ (h l (.head _)),zt9 L _ (λx hx=>h x (.tail _ hx)),K3,List.flatten_append,XK]
theorem zza{L:List (List (List Pt))}(h:∀l∈L,kw l):zqV L=zlc L.flatten.flatten:=by
 have:=zt9 L [] h
 rwa [K5]at this
theorem zgY(q:List Pt)(p:Pt):bnd f (q++[p])=f (if q=[] then p else bnd f q) p:=by
 by_cases h:q=[]
 ·rw[if_pos h,h,zuL]
 ·rw[if_neg h,zxe h]
theorem ptb{T:TypeId}{p q:Pt}(h:p=q):some (Mem.box T (ptE p))=some (Mem.box T (ptE q)):=by rw[h]
theorem zzb(rs:List (List Pt)):CG0 35 [.sl zh rs] [] (pbE rs) []:=by
 refine zc Tryz.func35 ?_
 refine⟨Nat,λi=>⟨[(8,i64 (i:Int)),(7,pr ((rs.take i).flatten≠[])),(6,.loc 3 0),(5,.loc 2 0),(3,.loc 1 0),(2,.loc 0 0),(0,.sl zh rs)],
  [(3,.box 35 (ptE (bnd mxP (rs.take i).flatten))),(2,.box 35 (ptE (bnd mnP (rs.take i).flatten))),(1,.box 35 (ptE zp)),(0,.box 35 (ptE zp))],4,66,0⟩,
  λi=>i<=rs.length/\(i=0∨kw rs),λi=>rs.length - i,0,⟨Xe _,.inl rfl⟩,?_,?_⟩
 ·refine(qC (t:=7) rfl (zd (q:=(rs.take 0).flatten≠[]) (λk=>k rfl))).trans (zf [0,1,2,3])
 rintro i ⟨hi,hv⟩
 have hi:i<=rs.length:=hi;have hv:i=0∨kw rs:=hv
 have fin:(¬i < rs.length∨¬kw rs)->LE (SV.tup [.agg (ptE (bnd mnP (rs.take i).flatten)),.agg (ptE (bnd mxP (rs.take i).flatten)),pr ((rs.take i).flatten≠[])]) (pbE rs):=λh=>by
  by_cases sg:zaC rs
  ·have h:¬i < rs.length:=h.elim id λk=>absurd sg.2 k
   have e:rs.take i=rs:=Xf oM;unfold pbE loR hiR;rw[e,if_pos sg,if_pos sg];exact vt (.cons .refl (.cons .refl (.cons (zF ⟨λ_=>sg,λ_=>sg.1⟩) .nil)))
  ·have e:(rs.take i).flatten=[]:=by
    rcases hv with hv | hv
    ·rw[hv];rfl
    ·have h:¬i < rs.length:=h.elim id λk=>absurd hv k
     rw[Xf oM];exact JQ λk=>sg ⟨k,hv⟩
   unfold pbE loR hiR;rw[if_neg sg,if_neg sg,e];exact vt (.cons .refl (.cons .refl (.cons (zF ⟨λk=>absurd rfl k,λk=>absurd k sg⟩) .nil)))
 intro hl0;have last:∀h:(¬i < rs.length∨¬kw rs),LE (SV.tup [.agg (ptE (bnd mnP (rs.take i).flatten)),.agg (ptE (bnd mxP (rs.take i).flatten)),pr ((rs.take i).flatten≠[])]) (pbE rs):=fin;refine⟨λg=>?_,λg=>?_⟩;rotate_left
 ·have g:¬(i:Int) < (rs.length:Int):=g;exact Dr.d<|Ob.mk (by kernel_rfl)<|last (.inl oM)
 have g:(i:Int) < (rs.length:Int):=g;refine zb.t (zj8 rs)<|⟨λhok=>?_,λhok=>?_⟩;rotate_left
 ·exact Dr.d<|Ob.mk (by kernel_rfl)<|last (.inr hok)
 have hok:kw rs:=hok;obtain⟨x,hx⟩:∃x,rs[i]? =some x:=⟨_,Xb oM⟩;have get:∀y,rs[(i:Int).toNat]? =some y->y=x:=λy hy=>Xi ((show rs[i]? =some y from hy).symm.trans hx)
 have ft:=zhP hx;clear last fin;obtain⟨q0,hq0⟩:∃q,q=(rs.take i).flatten:=⟨_,rfl⟩;rw[← hq0]at ft
 refine⟨Nat,λj=>⟨[(9,i64 (j:Int)),(8,i64 (i:Int)),(7,pr (q0++x.take j≠[])),(6,.loc 3 0),(5,.loc 2 0),(3,.loc 1 0),(2,.loc 0 0),(0,.sl zh rs)],
  [(3,.box 35 (ptE (bnd mxP (q0++x.take j)))),(2,.box 35 (ptE (bnd mnP (q0++x.take j)))),(1,.box 35 (ptE zp)),(0,.box 35 (ptE zp))],4,66,0⟩,
  λj=>j<=x.length,λj=>x.length - j,0,Xe _,?_,?_⟩
 ·have e:q0++x.take 0=(rs.take i).flatten:=by rw[JL,Xy,hq0]
  refine(qC (t:=7) rfl (zF (q:=q0++x.take 0≠[]) (by rw[e]))).trans (zC [0,1,2,3] ⟨ptb (by rw[e]),ptb (by rw[e]),rfl,rfl,trivial⟩)
 intro j hj;have hj:j<=x.length:=hj;refine Ob.o ?_;intro y hy;rw[get y hy];intro _;refine⟨λf=>?_,λf=>?_⟩
 ·have f:(j:Int) < (x.length:Int):=f;refine Ob.o ?_;intro y hy;rw[get y hy];refine Ob.o ?_;intro p hp;have hp:x[j]? =some p:=hp;have en:q0++x.take (j+1)=(q0++x.take j)++[p]:=by rw[Xm,hp,XK];rfl
  have ne:(q0++x.take j)++[p]≠[]:=by simp
  refine⟨λk=>?_,λk=>?_⟩
  ·have k:¬(q0++x.take j≠[]):=k;have k:q0++x.take j=[]:=Xa.1 k;refine Dr.d<|Ob.mk (by kernel_rfl)<|Ar.o<|⟨j+1,by show j+1<=x.length;omega,(qC (t:=7) rfl (zR (q:=q0++x.take (j+1)≠[]) (by rw[en];exact ne))).trans (zC [0,1,2,3] ⟨ptb (p:=mxP p p) ?_,ptb (p:=mnP p p) ?_,rfl,rfl,trivial⟩),by dsimp only;omega⟩
   ·rw[en,zgY,if_pos k]
   ·rw[en,zgY,if_pos k]
  ·have k:¬¬(q0++x.take j≠[]):=k;have k:q0++x.take j≠[]:=Xa.1 k;refine Ar.o<|⟨j+1,by show j+1<=x.length;omega,(qC (t:=7) rfl (zF (q:=q0++x.take (j+1)≠[]) ⟨λ_=>by rw[en];exact ne,λ_=>k⟩)).trans (zC [0,1,2,3] ⟨ptb (p:=mxP (bnd mxP (q0++x.take j)) p) ?_,ptb (p:=mnP (bnd mnP (q0++x.take j)) p) ?_,rfl,rfl,trivial⟩),by dsimp only;omega⟩
   ·rw[en,zgY,if_neg k]
   ·rw[en,zgY,if_neg k]
 ·have f:¬(j:Int) < (x.length:Int):=f;have et:x.take j=x:=Xf oM;have e:q0++x.take j=(rs.take (i+1)).flatten:=by rw[et,ft]
  refine Ar.o ?_;refine⟨i+1,⟨by show i+1<=rs.length;omega,.inr hok⟩,(qC (t:=7) rfl (zF (q:=(rs.take (i+1)).flatten≠[]) (by rw[e]))).trans (zC [0,1,2,3] ⟨ptb (by rw[e]),ptb (by rw[e]),rfl,rfl,trivial⟩),by dsimp only;omega⟩
theorem zsr(p q:Pt)(hp:zn p)(hq:zn q):zn (mnP p q):=by unfold zn mnP at*;dsimp only;omega
theorem zss(p q:Pt)(hp:zn p)(hq:zn q):zn (mxP p q):=by unfold zn mxP at*;dsimp only;omega
theorem zzc(h:zaC rs):zn (loR rs)/\zn (hiR rs):=by
 have hp:∀r∈rs.flatten,zn r:=λp hp=>by
  obtain⟨r,hr,hpr⟩:=J2.1 hp;exact h.2.2 r hr p hpr
 unfold loR hiR;rw[if_pos h,if_pos h];exact⟨zxG zsr hp,zxG zss hp⟩
theorem zmU:∀(L:List (List (List Pt))) (st:Option (Pt×Pt)),(∀p,st=some p->zn p.1/\zn p.2)->∀p,L.foldl zbo st=some p->zn p.1/\zn p.2
 | [],_,h=>h
 | l::L,st,h=>by
  refine zmU L (zbo st l) λp hp=>?_
  unfold zbo at hp
  by_cases c:zaC l
  ·rw[if_neg (λk=>k c)]at hp;obtain⟨b1,b2⟩:=zzc c
   cases st with
   | none=>cases hp;exact⟨zsr _ _ b1 b1,zss _ _ b2 b2⟩
   | some q=>cases hp;exact⟨zsr _ _ (h q rfl).1 b1,zss _ _ (h q rfl).2 b2⟩
  ·rw[if_pos c]at hp;exact h p hp
def bxR(r:List Pt):List Pt:=[bnd mnP r,bnd mxP r]
def neR(P:List (List Pt)):List (List Pt):=P.filter λr=>!r.isEmpty
variable{P:List (List Pt)}
theorem zq2{i:Nat}(h:P[i]? =some r):neR (P.take (i+1))=neR (P.take i)++(if r=[] then[] else[r]):=by
 unfold neR;rw[Xm,h,JO,List.filter_append];congr 1
 cases r with
 | nil=>rfl
 | cons a r=>rfl
theorem zld:∀P:List (List Pt),(neR P).flatten=P.flatten
 | []=>rfl
 | r::P=>by
  unfold neR
  cases r with
  | nil=>exact zld P
  | cons a r=>
   show((a::r)::neR P).flatten=_;rw[K3,zld P];rfl
theorem zDl(h:r∈neR P):r≠[]:=λe=>by
 have:=(Jz.1 h).2;rw[e]at this;exact absurd this dC
theorem zow(h:kw rs)(hr:r∈rs):kw [r]:=by
 rw[zb8];refine⟨?_,h.2 r hr⟩;obtain⟨j,hj,e⟩:=Ka hr;have k1:=vk (rs:=rs) (i:=j) (Xb hj);have k2:=zbB rs (j+1);have:=h.1;rw[e]at k1;omega
theorem zq3(h:kw [r]):zaC [r]↔r≠[]:=by
 unfold zaC;rw[K3,QO,Xy];exact⟨λk=>k.1,λk=>⟨k,h⟩⟩
theorem zzd(h:zaC [r]):loR [r]=bnd mnP r/\hiR [r]=bnd mxP r:=by
 unfold loR hiR;rw[if_pos h,if_pos h,K3,QO,Xy];exact⟨rfl,rfl⟩
theorem zua{bs:List (List Pt)}{i:Nat}{x:List SV}(h:(bs.map zh)[i]? =some x):∃b,bs[i]? =some b/\x=zh b:=by
 rw[XC]at h
 cases hb:bs[i]? with
 | none=>rw[hb]at h;cases h
 | some b=>rw[hb]at h;cases h;exact⟨b,rfl,rfl⟩
theorem zgZ{tb:List (Nat×Option Nat)}(bs:List (List Pt))(i:Nat)(x:List SV)(h:(bs.map zh)[i]? =some x):∃x',(bs.map zh)[i]? =some x'/\ren.rens tb x=some x':=by
 obtain⟨b,_,rfl⟩:=zua h;exact⟨_,h,rfl⟩
theorem garc{T:TypeId}{l l':List (List SV)}(h:l=l'):some (Mem.garr T 1 l)=some (Mem.garr T 1 l'):=by rw[h]
theorem zub(a b:Pt):([a,b]:List Pt).length=2/\(2:Nat)<=281474976710656/\2*2<=16777216/\0 < 2/\∀x∈[a,b],(ptE x).length=2/\jO (ptE x)=true/\ym.flats (ptE x)=true:=
 ⟨rfl,dC,dC,dC,λ_ _=>⟨rfl,rfl,rfl⟩⟩
theorem zq4(k:Nat):([[SV.own k]]:List (List SV)).length=1/\(1:Nat)<=281474976710656/\1*1<=16777216/\0 < 1/\∀x∈[[SV.own k]],x.length=1:=⟨rfl,dC,dC,dC,λx hx=>by rw[Xq.1 hx];rfl⟩
theorem zq5{a b:List α}{e:α->List SV}(he:∀x,(e x).length=1)(h:a.length<=1000000/\b.length<=1000000):((a.length:Int)+(b.length:Int))*24<=140737488355328/\a.length+b.length<=281474976710656/\0 < 1/\∀x∈b,(e x).length=1:=⟨oM,oM,dC,λx _=>he x⟩
def ancSt(P:List (List Pt))(u v:Int):Nat×List (List Pt)->St
 | (i,[])=>⟨[(12,i64 (i:Int)),(10,.own 1),(11,.val (.slice none 0 0)),(8,.loc 0 0),(2,i64 u),(3,i64 v)],[(1,.arr 72 zh 1 P),(0,.box 35 (ptE zp))],2,130,0⟩
 | (i,b::r)=>⟨[(12,i64 (i:Int)),(10,.own 1),(11,.own 2),(8,.loc 0 0),(2,i64 u),(3,i64 v)],[(2,.garr 72 1 ((b::r).map zh)),(1,.arr 72 zh 1 P),(0,.box 35 (ptE zp))],3,130,0⟩
theorem zuc(s:Sc)(i:Int):zqV (ut s i)=zlc (neR ((jE s i++uU s i)++zci s i)).flatten:=by
 rw[zza λl hl=>zk9 s i l hl,zld];unfold ut;rw[K3,K3,K3,QO,Xy,XK]
theorem zze(s:Sc)(i u v:Int)(ht:yr s):CG0 15 [.agg (scE s),i64 i,i64 u,i64 v] [] (ancE s i u v) []:=by
 obtain⟨⟨g1,l1⟩,⟨g2,l2⟩,⟨g3,l3⟩,_⟩:=zy9 s i;have efin:=zuc s i;unfold ancE;rw[efin];clear efin;refine zc Tryz.func15 ?_;refine zb.t (zAW s i ht)<|⟨List Pt,zh,jE s i,rfl,Ob.mk ⟨by show _*(24:Int)<=_;omega,oM,dC,λ_ _=>rfl⟩ ?_⟩;refine zb.t (zAX s i ht)<|⟨uU s i,rfl,Ob.mk (zq5 (λ_=>rfl) ⟨oM,oM⟩) ?_⟩;refine zb.t (zDk s i ht)<|⟨zci s i,rfl,Ob.mk (zq5 (λ_=>rfl) ⟨by rw[Xj];omega,oM⟩) ?_⟩;have hP:((jE s i++uU s i)++zci s i).length<=300000:=by rw[Xj,Xj];omega
 have hr:∀r∈(jE s i++uU s i)++zci s i,kw [r]:=λr h=>by
  rcases Xo.1 h with h | h
  ·rcases Xo.1 h with h | h
   ·exact zow g1 h
   ·exact zow g2 h
  ·exact zow g3 h
 obtain⟨P,hPe⟩:∃P,P=(jE s i++uU s i)++zci s i:=⟨_,rfl⟩;rw[← hPe]at hP hr ⊢;refine⟨Nat×List (List Pt),ancSt P u v,λz=>z.1<=P.length/\z.2=(neR (P.take z.1)).map bxR,λz=>P.length - z.1,(0,[]),⟨Xe _,rfl⟩,?_,?_⟩
 ·exact zf [1,4]
 rintro⟨j,bs⟩ ⟨h1,h2⟩
 have h1:j<=P.length:=h1;have h2:bs=(neR (P.take j)).map bxR:=h2
 have bl:bs.length<=300000:=by
  rw[h2,Xz];have:(neR (P.take j)).length<=(P.take j).length:=QF _ _;rw[Xk]at this;omega
 have next:∀r,P[j]? =some r->zaC [r]->bs++[[loR [r],hiR [r]]]=(neR (P.take (j+1))).map bxR:=λr hr' sg=>by
  have k:=(zq3 (hr r (Xd hr'))).1 sg;rw[zq2 hr',if_neg k,XG,← h2,(zzd sg).1,(zzd sg).2];rfl
 have skip:∀r,P[j]? =some r->¬zaC [r]->bs=(neR (P.take (j+1))).map bxR:=λr hr' sg=>by
  have k:r=[]:=JQ λk=>sg ((zq3 (hr r (Xd hr'))).2 k)
  rw[zq2 hr',if_pos k,Xy,← h2]
 have cut1:∀r,P[j]? =some r->(P.drop (j:Int).toNat).take ((j:Int)+1 - (j:Int)).toNat=[r]:=λr hr'=>by
  rw[XW,show((j:Int)+1 - (j:Int)).toNat=1 by omega];have hl:=(Xc.1 hr').1;rw[KG hl];show[P[j]]=[r];rw[Xb hl]at hr';rw[Xi hr']
 cases bs with
 | nil=>
  intro _;refine⟨λg=>?_,λg=>?_⟩
  ·have g:(j:Int) < (P.length:Int):=g;obtain⟨r,hrj⟩:∃r,P[j]? =some r:=⟨_,Xb oM⟩;have cb:CG0 35 [.sl zh ((P.drop (j:Int).toNat).take ((j:Int)+1 - (j:Int)).toNat)] [] (pbE [r]) []:=by rw[cut1 r hrj];exact zzb [r]
   refine Ar.o<|Sl.win (Ob.mk oM ?_);refine zb.t cb<|Br.mk (λsg=>?_) (λsg=>?_)
   ·refine⟨Pt,ptE,[loR [r],hiR [r]],rfl,Ob.mk (zub _ _) ?_⟩;refine⟨[[.own 4]],rfl,Ob.mk (zq4 4) ?_⟩;refine Ob.o1<|Ar.o<|⟨(j+1,[[loR [r],hiR [r]]]),⟨by show j+1<=P.length;omega,next r hrj sg⟩,?_,by dsimp only;omega⟩;exact(zqX 4 6 0 (enc:=ptE) (ys:=[loR [r],hiR [r]]) (L:=[]) (row:=[.own 4]) rfl rfl rfl (λx hx=>by cases hx) rfl).trans (zC [0,1,6] ⟨⟨_,rfl,rfl,zgZ [[loR [r],hiR [r]]]⟩,rfl,rfl,trivial⟩)
   ·exact Ar.o<|⟨(j+1,[]),⟨by show j+1<=P.length;omega,skip r hrj sg⟩,zf [0,1],by dsimp only;omega⟩
  ·have g:¬(j:Int) < (P.length:Int):=g;have et:P.take j=P:=Xf oM;rw[et]at h2;have hn:neR P=[]:=List.map_eq_nil_iff.1 h2.symm;rw[hn];refine⟨λ_=>?_,λk=>absurd rfl k⟩;exact zI .refl (zd dC)
 | cons b bs=>
  intro _;refine⟨λg=>?_,λg=>?_⟩
  ·have g:(j:Int) < (P.length:Int):=g;obtain⟨r,hrj⟩:∃r,P[j]? =some r:=⟨_,Xb oM⟩;have cb:CG0 35 [.sl zh ((P.drop (j:Int).toNat).take ((j:Int)+1 - (j:Int)).toNat)] [] (pbE [r]) []:=by rw[cut1 r hrj];exact zzb [r]
   refine Ar.o<|Sl.win (Ob.mk oM ?_);refine zb.t cb<|Br.mk (λsg=>?_) (λsg=>?_)
   ·refine⟨Pt,ptE,[loR [r],hiR [r]],rfl,Ob.mk (zub _ _) ?_⟩;refine⟨[[.own 5]],rfl,Ob.mk (zq4 5) ?_⟩;refine Ob.mk ⟨by show(_+_)*(24:Int)<=_;rw[Xz,QG];omega,by rw[Xz,QG];omega,dC⟩<|Ar.o<|⟨(j+1,b::(bs++[[loR [r],hiR [r]]])),⟨by show j+1<=P.length;omega,next r hrj sg⟩,?_,by dsimp only;omega⟩
    refine(zqX 5 7 0 (enc:=ptE) (ys:=[loR [r],hiR [r]]) (L:=(b::bs).map zh) (row:=[.own 5]) rfl rfl rfl (λx hx=>by obtain⟨_,_,rfl⟩:=XO.1 hx;rfl) rfl).trans (zC [0,1,7] ⟨⟨_,garc ?_,rfl,zgZ (b::(bs++[[loR [r],hiR [r]]]))⟩,rfl,rfl,trivial⟩);show(b::bs).map zh++[zh [loR [r],hiR [r]]]=((b::bs)++[[loR [r],hiR [r]]]).map zh;rw[XG];rfl
   ·exact Ar.o<|⟨(j+1,b::bs),⟨by show j+1<=P.length;omega,skip r hrj sg⟩,zC [0,1,2] ⟨⟨_,rfl,rfl,zgZ (b::bs)⟩,rfl,rfl,trivial⟩,by dsimp only;omega⟩
  have g:¬(j:Int) < (P.length:Int):=g;have et:P.take j=P:=Xf oM;rw[et]at h2
  have hN:∀k c,(b::bs)[k]? =some c->∃r,(neR P)[k]? =some r/\c=bxR r/\r≠[]:=λk c hc=>by
   rw[h2,XC]at hc
   cases hk:(neR P)[k]? with
   | none=>rw[hk]at hc;cases hc
   | some r=>rw[hk]at hc;cases hc;exact⟨r,hk,rfl,zDl (Xd hk)⟩
  have hNl:(b::bs).length=(neR P).length:=by rw[h2,Xz]
  generalize neR P=N at*;intro hl0;refine⟨λk=>?_,λ_=>?_⟩
  ·have k:(((b::bs).map zh).length:Int)=0:=k;rw[Xz,Xl]at k;omega
  obtain⟨r0,n0,e0,ne0⟩:=hN 0 b rfl;have tk:∀{k:Nat} {r:List Pt},N[k]? =some r->(N.take (k+1)).flatten=(N.take k).flatten++r:=λh=>zhP h
  have ml:(((b::bs).map zh).length:Int)=(bs.length:Int)+1:=by rw[Xz,Xl];omega
  refine Ob.mk (by rw[ml];omega)<|Ob.mk (by rw[ml];omega) ?_;intro x hx;obtain rfl:x=zh b:=(Xi hx).symm;refine Ob.mk (by show(0:Int)<=0/\(0:Int) < (b.length:Int);rw[e0];show(0:Int)<=0/\(0:Int) < 2;decide) ?_;intro p hp;rw[e0]at hp;obtain rfl:p=bnd mnP r0:=(Xi hp).symm;refine Ob.mk (by rw[ml];omega)<|Ob.mk (by rw[ml];omega) ?_;intro x hx;obtain rfl:x=zh b:=(Xi hx).symm
  refine Ob.mk (by show(0:Int)<=1/\(1:Int) < (b.length:Int);rw[e0];show(0:Int)<=1/\(1:Int) < 2;decide) ?_;intro p hp;rw[e0]at hp;obtain rfl:p=bnd mxP r0:=(Xi hp).symm;have N1:1<=N.length:=by rw[← hNl,Xl];omega
  have Nl:N.length=bs.length+1:=by rw[← hNl,Xl]
  have t1:(N.take (0+1)).flatten=r0:=by rw[tk n0];rfl
  have tne:∀k,(N.take (k+1)).flatten≠[]:=λk e=>ne0 (by
   have:N.take (k+1)=r0::(N.drop 1).take k:=by
    cases N with
    | nil=>cases n0
    | cons a N=>cases n0;rfl
   rw[this,K3]at e
   exact(J4.1 e).1)
  refine⟨Nat,λk=>⟨[(18,i64 ((k+1:Nat):Int)),(11,.own 1),(17,.loc 3 0),(16,.loc 2 0),(8,.loc 0 0),(2,i64 u),(3,i64 v)],
   [(3,.box 35 (ptE (bnd mxP (N.take (k+1)).flatten))),(2,.box 35 (ptE (bnd mnP (N.take (k+1)).flatten))),(1,.garr 72 1 ((b::bs).map zh)),(0,.box 35 (ptE zp))],4,130,0⟩,
   λk=>k+1<=N.length,λk=>N.length - k,0,N1,?_,?_⟩
  ·exact zC [0,2,3,4] ⟨ptb (by rw[t1]),ptb (by rw[t1]),⟨_,rfl,rfl,zgZ (b::bs)⟩,rfl,trivial⟩
  intro k hk;have hk:k+1<=N.length:=hk;intro _;refine⟨λf=>?_,λf=>?_⟩
  ·have f:((k+1:Nat):Int) < (((b::bs).map zh).length:Int):=f;rw[ml]at f;obtain⟨c,hc⟩:∃c,(b::bs)[k+1]? =some c:=⟨_,Xb (by rw[Xl];omega)⟩;obtain⟨r,nr,ec,ner⟩:=hN _ c hc
   have get:∀x,((b::bs).map zh)[((k+1:Nat):Int).toNat]? =some x->x=zh (bxR r):=λx hx=>by
    obtain⟨c',h1,h2⟩:=zua (i:=k+1) hx;rw[hc]at h1;rw[h2,← Xi h1,ec]
   have e1:bnd mnP (N.take (k+1+1)).flatten=mnP (bnd mnP (N.take (k+1)).flatten) (bnd mnP r):=by rw[tk nr,ziW zq0 zou (tne k) ner]
   have e2:bnd mxP (N.take (k+1+1)).flatten=mxP (bnd mxP (N.take (k+1)).flatten) (bnd mxP r):=by rw[tk nr,ziW zq1 zov (tne k) ner]
   refine Dr.d<|Ob.mk (by rw[ml];omega)<|Ob.mk (by rw[ml];omega) ?_;intro x hx;rw[get x hx];refine Ob.mk (by show(0:Int)<=0/\(0:Int) < 2;decide) ?_;intro p hp;obtain rfl:p=bnd mnP r:=(Xi hp).symm;refine Ob.mk (by rw[ml];omega)<|Ob.mk (by rw[ml];omega) ?_;intro x hx;rw[get x hx];refine Ob.mk (by show(0:Int)<=0/\(0:Int) < 2;decide) ?_;intro p hp;obtain rfl:p=bnd mnP r:=(Xi hp).symm;refine Ob.mk (by kernel_rfl)<|Dr.d<|Ob.mk (by rw[ml];omega) ?_
   refine Ob.mk (by rw[ml];omega) ?_;intro x hx;rw[get x hx];refine Ob.mk (by show(0:Int)<=1/\(1:Int) < 2;decide) ?_;intro p hp;obtain rfl:p=bnd mxP r:=(Xi hp).symm;refine Ob.mk (by rw[ml];omega)<|Ob.mk (by rw[ml];omega) ?_;intro x hx;rw[get x hx];refine Ob.mk (by show(0:Int)<=1/\(1:Int) < 2;decide) ?_;intro p hp;obtain rfl:p=bnd mxP r:=(Xi hp).symm;refine Ob.mk (by kernel_rfl)<|Ar.o ?_
   exact⟨k+1,by show k+1+1<=N.length;omega,zC [0,1,2,3] ⟨ptb e2.symm,ptb e1.symm,⟨_,rfl,rfl,zgZ (b::bs)⟩,rfl,trivial⟩,by dsimp only;omega⟩
  ·have f:¬((k+1:Nat):Int) < (((b::bs).map zh).length:Int):=f;rw[ml]at f;have et2:N.take (k+1)=N:=Xf oM;have ne:=tne k;rw[et2]at ne;have er:zlc N.flatten=some (bnd mnP N.flatten,bnd mxP N.flatten):=if_neg ne;rw[er];refine Dr.d<|zb.t (zdN (bnd mnP (N.take (k+1)).flatten) (bnd mxP (N.take (k+1)).flatten) u 256)<|zb.t (zdN (bnd mnP (N.take (k+1)).flatten) (bnd mxP (N.take (k+1)).flatten) v 256)<|Ob.mk (by kernel_rfl) ?_;rw[et2];exact zI .refl (zR rfl)
theorem zA0{p:Pt×Pt}(h:zlc q=some p):p.1.x<=p.2.x/\p.1.y<=p.2.y:=by
 unfold zlc at h
 split at h
 ·cases h
 ·rename_i hq
  cases h
  obtain⟨a,ha⟩:∃a,a∈q:=QV q hq;obtain⟨⟨b1,b2⟩,b3,b4⟩:=zCu ha;exact⟨Yx b1 b3,Yx b2 b4⟩
theorem zvS{st:Option (Pt×Pt)}(h:∀p,st=some p->(zn p.1/\zn p.2)/\p.1.x<=p.2.x/\p.1.y<=p.2.y)(u v:Int):
  ((ze8 st 0 0).x<=(ze8 st u v).x/\(ze8 st 0 0).y<=(ze8 st u v).y)/\(ze8 st u v).x<=(ze8 st 256 256).x/\(ze8 st u v).y<=(ze8 st 256 256).y:=by
 cases st with
 | none=>exact⟨⟨KB _,KB _⟩,KB _,KB _⟩
 | some p=>
  obtain⟨a,b⟩:=p;obtain⟨⟨ha,hb⟩,hx,hy⟩:=h _ rfl;have hx:a.x<=b.x:=hx;have hy:a.y<=b.y:=hy;have e0:qQ a b 0 256=a:=zmA dC ha;have e1:qQ a b 256 256=b:=zmB dC ha hb;have ba:inB a b a:=by unfold inB;omega
  have bb:inB a b b:=by unfold inB;omega
  have k1:=zts (n:=u) (d:=256) ba bb ha hb;have k2:=zts (n:=v) (d:=256) ba bb ha hb;unfold inB at k1 k2;show((qQ a b 0 256).x<=(qQ a b u 256).x/\(qQ a b 0 256).y<=(qQ a b v 256).y)/\(qQ a b u 256).x<=(qQ a b 256 256).x/\(qQ a b v 256).y<=(qQ a b 256 256).y;rw[e0,e1];omega
theorem l_geoAnchor(s:Sc)(i u v:Int):CG0 4 [.agg (scE s),i64 i,.agg [i64 u,i64 v]] [] (bl true) []:=by
 refine zc Tryz.func4 ?_;refine zfa.data<|zb.t (zy3 s)<|⟨λ_=>zb.to _ zmS rfl .refl,λh=>?_⟩;have ht:=zAV (Xa.1 h)
 have hz:∀l∈ut s i,qi l<=4096:=λl hl=>by
  have:=(zk9 s i l hl).1;omega
 have hmid:=zvS (st:=zqV (ut s i)) (λp hp=>⟨zmU (ut s i) none (λp h=>by cases h) p hp,zA0 ((zuc s i).symm.trans hp)⟩) u v;obtain⟨⟨m1,m2⟩,m3,m4⟩:=hmid;refine zb.t (zeK s i u v ht (zot s i ht) hz)<|zb.t (zze s i u v ht)<|zb.t (zeK s i 0 0 ht (zot s i ht) hz)<|zb.t (zeK s i 256 256 ht (zot s i ht) hz)<|⟨λ_=>?_,λk=>absurd ⟨rfl,rfl,trivial⟩ k⟩;refine⟨λ_=>?_,λk=>absurd K7 k⟩;refine⟨λ_=>?_,λk=>absurd m1 k⟩;refine⟨λ_=>?_,λk=>absurd m2 k⟩
 refine⟨λ_=>?_,λk=>absurd m3 k⟩;refine⟨λ_=>?_,λk=>absurd m4 k⟩;exact zb.t zmS<|.refl
end Go.Gs
namespace Go.Gs
open Go.Proofs Go.RowKit
theorem laidOut:laidOutB Tryz.prog=true:=by kernel_rfl
theorem wfi{n:Int}(h:(Lit.int .i64 n).wf=true):R64 n:=r64 h
theorem wf32{n:Int}(h:(Lit.int .u32 n).wf=true):0<=n/\n<=4294967295:=by
 simp only[Lit.wf,Xx,decide_eq_true_eq]at h;exact h
def shI:Sh:=.int .i64
def shB:Sh:=.int .u8
def zmV:Sh:=.st (.cons .bool (.cons (.sl (.int .u32)) .nil))
def ze9:Sh:=.st (.cons zmV (.cons zmV .nil))
def zvT:Sh:=.st (.cons ze9 (.cons ze9 (.cons ze9 (.cons ze9 (.cons ze9 (.cons ze9 .nil))))))
def zq6(n:Int):Dig:=dof n.toNat
def toBI(y:zmV.T):BI:=⟨y.1,List.map zq6 y.2.1⟩
def zst(y:ze9.T):BR:=⟨toBI y.1,toBI y.2.1⟩
def toAF(y:zvT.T):AF:=⟨zst y.1,zst y.2.1,zst y.2.2.1,zst y.2.2.2.1,zst y.2.2.2.2.1,zst y.2.2.2.2.2.1⟩
theorem zBy(y:zmV.T)(h:zmV.wf y):jr (zmV.enc y) (biE (toBI y)):=by
 refine .cons .refl (.cons ?_ .nil);refine LEd.sl zq6 λn hn=>?_
 have h1:=wf32 (h.2.1 n hn)
 have e:((zq6 n).val:Int)=n:=by
  unfold zq6;rw[kE];omega
 show jr [.val (.int .u32 n)] [.val (.int .u32 ((zq6 n).val:Int))];rw[e];exact .refl
theorem zmW(y:ze9.T)(h:ze9.wf y):jr (ze9.enc y) (brE (zst y)):=jr.append (zBy y.1 h.1) (jr.append (zBy y.2.1 h.2.1) .nil)
theorem zBz(y:zvT.T)(h:zvT.wf y):jr (zvT.enc y) (afE (toAF y)):=
 jr.append (zmW _ h.1) (jr.append (zmW _ h.2.1) (jr.append (zmW _ h.2.2.1) (jr.append (zmW _ h.2.2.2.1) (jr.append (zmW _ h.2.2.2.2.1) (by
  have:=jr.append (zmW _ h.2.2.2.2.2.1) .nil
  rwa [Xy,Xy]at this)))))
section
variable {H:Type} {enc:TypeId×Value->H} {W:World} {b0:Nat} {held:Bool}
end
end Go.Gs
namespace Go.Gs
open Go.Proofs Go.RowKit
def zvU:Sh:=.st (.cons shI (.cons shI .nil))
def zzf(y:zvU.T):Pt:=⟨y.1,y.2.1⟩
def shSg:Sh:=.st (.cons shI (.cons zvU (.cons zvU (.cons zvU .nil))))
def zvV(y:shSg.T):Sg:=⟨y.1,zzf y.2.1,zzf y.2.2.1,zzf y.2.2.2.1⟩
def toI(y:shI.T):Int:=y
def zud:Sh:=.st (.cons shI (.cons shI (.cons shI (.cons shI (.cons (.sl shI) (.cons shI .nil))))))
def zzg(y:zud.T):Pen:=⟨y.1,y.2.1,y.2.2.1,y.2.2.2.1,List.map toI y.2.2.2.2.1,y.2.2.2.2.2.1⟩
theorem zDm(y:zud.T):jr (zud.enc y) (jo (zzg y)):=.cons .refl (.cons .refl (.cons .refl (.cons .refl (.cons (LEd.sl toI λ_ _=>jr.refl) (.cons .refl .nil)))))
section
variable {H:Type} {enc:TypeId×Value->H} {W:World} {b0:Nat} {held:Bool}
end
end Go.Gs
namespace Go.Gs
open Go.Proofs Go.RowKit
def zzh:Sh:=.st (.cons shB (.cons shB (.cons shB (.cons shB .nil))))
def zvW(y:zzh.T):Pix:=⟨y.1,y.2.1,y.2.2.1,y.2.2.2.1⟩
def shSt:Sh:=.st (.cons shI (.cons zzh .nil))
def toSt(y:shSt.T):zkN:=⟨y.1,zvW y.2.1⟩
def zzi:Sh:=.st (.cons shI (.cons shI (.cons (.sl zzh) .nil)))
def zzj(y:zzi.T):Img:=⟨y.1,y.2.1,List.map zvW y.2.2.1⟩
theorem im_le(y:zzi.T):jr (zzi.enc y) (zkK (zzj y)):=.cons .refl (.cons .refl (.cons (LEd.sl zvW λ_ _=>jr.refl) .nil))
def zvX:Sh:=.st (.cons shI (.cons zzh (.cons zvU (.cons zvU (.cons shI (.cons (.sl shSt) (.cons shI (.cons zzi (.cons shI (.cons zvT .nil))))))))))
def zq7(y:zvX.T):Pnt:=⟨y.1,zvW y.2.1,zzf y.2.2.1,zzf y.2.2.2.1,y.2.2.2.2.1,List.map toSt y.2.2.2.2.2.1,y.2.2.2.2.2.2.1,zzj y.2.2.2.2.2.2.2.1,y.2.2.2.2.2.2.2.2.1,toAF y.2.2.2.2.2.2.2.2.2.1⟩
theorem zBA(y:zvX.T)(h:zvX.wf y):jr (zvX.enc y) (vf (zq7 y)):=
 .cons .refl (.cons .refl (.cons .refl (.cons .refl (.cons .refl (.cons .refl (.cons .refl (.cons .refl (.cons .refl (.cons .refl (.cons (LEd.sl toSt λ_ _=>jr.refl) (.cons .refl
  (.cons .refl (.cons .refl (.cons (LEd.sl zvW λ_ _=>jr.refl) (.cons .refl (by
  have:=jr.append (zBz _ h.2.2.2.2.2.2.2.2.2.1) .nil
  rwa [Xy,Xy]at this))))))))))))))))
theorem jr.app2{us bs cs ds xs ys:List SV}(h:jr us bs)(k:jr cs ds)(e1:xs=us++cs)(e2:ys=bs++ds):jr xs ys:=by rw[e1,e2];exact jr.append h k
def shN3:Sh:=.cons (.sl zvX) (.cons zzi (.cons shI .nil))
theorem n3_le(y:shN3.T)(h:shN3.wf y):jr (shN3.enc y) (.sl vf (List.map zq7 y.1)::(zkK (zzj y.2.1)++[i64 y.2.2.1])):=
 .cons (LEd.sl zq7 λx hx=>zBA x (h.1 x hx)) (jr.app2 (im_le y.2.1) (jr.refl (us:=[i64 y.2.2.1])) rfl rfl)
def zzk:Sh:=.cons (.sl shSg) (.cons shI (.cons shB (.cons shI (.cons .bool (.cons .bool (.cons (.sl shSg) (.cons shI (.cons (.sl zvX) (.cons zud shN3)))))))))
theorem n2_le(y:zzk.T)(h:zzk.wf y):jr (zzk.enc y) (.sl sgE (List.map zvV y.1)::i64 y.2.1::u8 y.2.2.1::i64 y.2.2.2.1::.pr (@Eq Bool y.2.2.2.2.1 true) (instDecidableEqBool y.2.2.2.2.1 true)::.pr (@Eq Bool y.2.2.2.2.2.1 true) (instDecidableEqBool y.2.2.2.2.2.1 true)::.sl sgE (List.map zvV y.2.2.2.2.2.2.1)::i64 y.2.2.2.2.2.2.2.1::
  .sl vf (List.map zq7 y.2.2.2.2.2.2.2.2.1)::(jo (zzg y.2.2.2.2.2.2.2.2.2.1)++(.sl vf (List.map zq7 y.2.2.2.2.2.2.2.2.2.2.1)::(zkK (zzj y.2.2.2.2.2.2.2.2.2.2.2.1)++[i64 y.2.2.2.2.2.2.2.2.2.2.2.2.1])))):=
 .cons (LEd.sl zvV λ_ _=>jr.refl) (.cons .refl (.cons .refl (.cons .refl (.cons .refl (.cons .refl (.cons (LEd.sl zvV λ_ _=>jr.refl) (.cons .refl (.cons (LEd.sl zq7 λx hx=>zBA x (h.2.2.2.2.2.2.2.2.1 x hx))
  (jr.app2 (zDm y.2.2.2.2.2.2.2.2.2.1) (n3_le y.2.2.2.2.2.2.2.2.2.2 h.2.2.2.2.2.2.2.2.2.2) rfl rfl)))))))))
def zzl:Sh:=.st (.cons shI (.cons shI (.cons shI (.cons zvT zzk))))
def toNd2(i k d:Int)(t:AF)(y:zzk.T):Nd:=⟨i,k,d,t,List.map zvV y.1,y.2.1,y.2.2.1,y.2.2.2.1,y.2.2.2.2.1,y.2.2.2.2.2.1,List.map zvV y.2.2.2.2.2.2.1,y.2.2.2.2.2.2.2.1,List.map zq7 y.2.2.2.2.2.2.2.2.1,zzg y.2.2.2.2.2.2.2.2.2.1,
 List.map zq7 y.2.2.2.2.2.2.2.2.2.2.1,zzj y.2.2.2.2.2.2.2.2.2.2.2.1,y.2.2.2.2.2.2.2.2.2.2.2.2.1⟩
def toNd(y:zzl.T):Nd:=toNd2 y.1 y.2.1 y.2.2.1 (toAF y.2.2.2.1) y.2.2.2.2
theorem nd_le(y:zzl.T)(h:zzl.wf y):jr (zzl.enc y) (ndE (toNd y)):=
 .cons .refl (.cons .refl (.cons .refl (jr.app2 (zBz y.2.2.2.1 h.2.2.2.1) (n2_le y.2.2.2.2 h.2.2.2.2) rfl rfl)))
def zzm:Sh:=.st (.cons shI (.cons shI (.cons zzh (.cons (.sl zzl) .nil))))
def toSc(y:zzm.T):Sc:=⟨y.1,y.2.1,zvW y.2.2.1,List.map toNd y.2.2.2.1⟩
theorem sc_le(y:zzm.T)(h:zzm.wf y):jr (zzm.enc y) (scE (toSc y)):=
 .cons .refl (.cons .refl (.cons .refl (.cons .refl (.cons .refl (.cons .refl (.cons (LEd.sl toNd λx hx=>nd_le x (h.2.2.2.1 x hx)) .nil))))))
section
variable {H:Type} {enc:TypeId×Value->H} {W:World} {b0:Nat} {held:Bool}
theorem open_scene{v:Value}{d:DataW H}{p:List MemPlace}(hv:Value.okWide Tryz.prog W .any b0 26 v)(h:DataW.Trod enc Tryz.prog W 0 (λ_=>true) held 26 v d p):
  ∃s:Sc,True/\∀(S Pm:Nat->Prop) (ρ:zk),(∀b,¬S b)->G S Pm ρ W (.agg (scE s)) v:=by
 obtain⟨y,hy,g⟩:=zmx zzm (by kernel_rfl) (by kernel_rfl) hv h;exact⟨toSc y,trivial,g _ (sc_le y hy)⟩
end
def laidL:List (String×DataW Unit):=[("errors.errorType",YtjgadnaphffpkaaGreatDoor.Rows.laid_errors_errorType)]
theorem zA1:Tryz.prog.globalNamed "errors.errorType" =some 0:=by kernel_rfl
theorem zA2:(Tryz.prog.cutTypes.find? (·.1== "internal/reflectlite.rtype")).map (·.2)=some 321:=by kernel_rfl
theorem zzn:((List.range 400).filter λt=>Tryz.prog.rowNamed t [101,114,114,111,114])=[231]:=by kernel_rfl
theorem zvY:Tryz.prog.types.size=400:=by kernel_rfl
theorem zDn:typeHandle Tryz.prog 231=.pointer (some ⟨3,231,none⟩):=by kernel_rfl
theorem handle_of_laid{W:World}(h:laidMetH Tryz.prog laidL W):∀g v,GL g v->W.cell? ⟨g,0,none⟩=some v:=by
 have h':laidMet Tryz.prog [] W/\handlesMet Tryz.prog laidL W:=h;obtain⟨name,u,ty,e1,e2,e3,e4,e5⟩:=h'.2 _ (Xq.2 rfl);have en:name=[101,114,114,111,114]:=(Xi e1).symm;subst en;obtain rfl:=Xi (zA2.symm.trans e2);have hm:ty∈(List.range 400).filter λt=>Tryz.prog.rowNamed t [101,114,114,111,114]:=Jz.2 ⟨Kj.2 (by rw[← zvY];exact e3),e4⟩
 rw[zzn]at hm;obtain rfl:=Xq.1 hm;rw[zDn]at e5;have e6:W.cell? ⟨0,0,none⟩=some (.iface 321 (.agg #[.pointer (some ⟨3,231,none⟩)])):=by simpa using World.var?_cell zA1 e5 0
 intro g v hg
 cases hg with
 | head=>exact e6
 | tail _ h=>cases h
noncomputable def laidWorld (os:Os):World:=
 let w0:=World.holding Tryz.prog os ⟨#[],#[],[]⟩
 { w0 with heap:=w0.heap.modify 0 fun
   | .cells _ t frozen=>.cells #[.iface 321 (.agg #[.pointer (some ⟨3,231,none⟩)])] t frozen
   | o=>o }
theorem laidWorld_met(os:Os)(args:Array Value):laidMetH Tryz.prog laidL ((laidWorld os).forCall (λ_ _=>0) ⟨#[],args,[]⟩).memory:=
 laidMetH_of_parts (laidMet_nil _ _) (by kernel_rfl)
end Go.Gs
namespace Go.Gs
open Go.Proofs Go.RowKit
def shI2:Sh:=.ar (.cons shI (.cons shI .nil))
section
variable {H:Type} {enc:TypeId×Value->H} {W:World} {b0:Nat} {held:Bool}
theorem open_int2{v:Value}{d:DataW H}{p:List MemPlace}(hv:Value.okWide Tryz.prog W .any b0 33 v)(h:DataW.Trod enc Tryz.prog W 0 (λ_=>true) held 33 v d p):
  ∃s:Int×Int,(R64 s.1/\R64 s.2)/\∀(S Pm:Nat->Prop) (ρ:zk),(∀b,¬S b)->G S Pm ρ W (.agg [i64 s.1,i64 s.2]) v:=by
 obtain⟨y,hy,g⟩:=zmx shI2 (by kernel_rfl) (by kernel_rfl) hv h;exact⟨(y.1,y.2.1),⟨wfi hy.1,wfi hy.2.1⟩,g _ jr.refl⟩
end
end Go.Gs
