/- Small scenes. -/
import Derived.Test.YtkngjacccoklaaaGreatDoorMA
import Derived.Test.YtkngjacccoklaaaGreatDoorMBE
import Derived.Test.YtkngjacccoklaaaGreatDoorMBD
import Derived.Test.YtkngjacccoklaaaGreatDoorMAZ
import Derived.Test.YtkngjacccoklaaaGreatDoorMBC
import Derived.Test.YtkngjacccoklaaaGreatDoorMAM
set_option maxRecDepth 100000
set_option maxHeartbeats 8000000
set_option linter.all false
namespace Go.Gs
open Go.Proofs
def ltP(p:Pnt):Prop:=p.t.le 12/\p.st.length<=30/\p.im.px.length<=300
instance (p:Pnt):Decidable (ltP p):=inferInstanceAs (Decidable (_/\_))
def ltN(n:Nd):Prop:=(n.path.length<=24/\n.clip.length<=24/\n.pen.d.length<=20/\n.im.px.length<=300/\n.t.le 12/\n.fill.length<=3/\n.strk.length<=3)/\∀p∈n.fill++n.strk,ltP p
instance (n:Nd):Decidable (ltN n):=inferInstanceAs (Decidable (_/\_))
def ltS(s:Sc):Prop:=¬(8<s.ns.length/\s.ns.length<=64)/\∀n∈s.ns.take 65,ltN n
instance (s:Sc):Decidable (ltS s):=inferInstanceAs (Decidable (_/\_))
def zoS{s:Sc}(h:ltS s):jE s:=λhl n hn=>by
 have hn:ltN n:=h.2 n (by rw[Xi oM];exact hn);obtain⟨⟨h1,h2,h3,h4,h5,h6,h7⟩,h8⟩:=hn
 have hp:∀p∈n.fill++n.strk,p.t.le 1000/\p.im.px.length<=9223372036854775807:=λp hp=>by
  obtain⟨g1,_,g3⟩:=h8 p hp;exact⟨g1.up dC,oM⟩
 exact⟨h5.up dC,⟨h5.up dC,λp q=>hp p (Qg _ q),λp q=>hp p (Qv _ q),oM⟩,oM,oM⟩
def zzH(s:Sc):CG0 4 [.agg (scE s)] [] (pr (ltS s)) []:=by
 refine zc Tryz.func4 ?_;intro hl0;refine⟨λg1=>?_,λg1=>?_⟩
 all_goals first
  |(intro hl1;refine⟨λg2=>zd λk=>k.1 ⟨oM,oM⟩,λg2=>?_⟩;have h0:¬(8<s.ns.length/\s.ns.length<=64):=λk=>g2 (by have:=k.2;omega))
  |have h0:¬(8<s.ns.length/\s.ns.length<=64):=λk=>g1 (by have:=k.1;omega)
 all_goals
  refine⟨Nat,λi=>⟨[(3,i64 (i:Int)),(1,.loc 0 0)],[(0,.box 26 (scE s))],1,114,0⟩,λi=>i<=(s.ns.take 65).length/\∀n∈(s.ns.take 65).take i,ltN n,λi=>(s.ns.take 65).length-i,0,⟨Xh _,λn hn=>by cases hn⟩,?_,?_⟩
  ·exact zf [0]
  have htl:(s.ns.take 65).length=min 65 s.ns.length:=Xo
  rintro i ⟨h1,h2⟩
  have fin:¬((i:Int)<s.ns.length/\(i:Int)<=64)->LE (bl true) (pr (ltS s)):=λh=>zI ⟨h0,λn hn=>h2 n (by rw[Xi oM];exact hn)⟩
  intro hl2;refine⟨λg=>?_,λg=>fin λk=>g k.1⟩;have g:(i:Int)<s.ns.length:=g;refine⟨λg'=>?_,λg'=>fin λk=>g' k.2⟩;have g':(i:Int)<=64:=g';refine Ob.o ?_;intro x hx;have hx:s.ns[i]?=some x:=hx;have hx2:(s.ns.take 65)[i]?=some x:=by rw[XI,Xe oM];exact hx
  have bad:¬ltN x->LE (bl false) (pr (ltS s)):=λh=>zd λk=>h (k.2 x (Xf hx2))
  intro a0;refine⟨λk=>bad λq=>by have:=q.1.1;omega,λb1=>?_⟩;intro a1;refine⟨λk=>bad λq=>by have:=q.1.2.1;omega,λb2=>?_⟩;intro a2;refine⟨λk=>bad λq=>by have:=q.1.2.2.1;omega,λb3=>?_⟩;intro a3;refine⟨λk=>bad λq=>by have:=q.1.2.2.2.1;omega,λb4=>?_⟩;refine zb.t (zuq x.t)<|⟨λk=>bad λq=>k q.1.2.2.2.2.1,λb5=>?_⟩;intro a5;refine⟨λk=>bad λq=>by have:=q.1.2.2.2.2.2.1;omega,λb6=>?_⟩;intro a6
  refine⟨λk=>bad λq=>by have:=q.1.2.2.2.2.2.2;omega,λb7=>?_⟩
  have ok1:x.path.length<=24/\x.clip.length<=24/\x.pen.d.length<=20/\x.im.px.length<=300/\x.t.le 12/\x.fill.length<=3/\x.strk.length<=3:=
   ⟨oM,oM,oM,oM,Xa.1 b5,oM,oM⟩
  refine Dr.d<|⟨Pnt,yD,[],rfl,Ob.o2 ?_⟩;refine⟨x.fill,rfl,Ob.mk ⟨by show(((0:Nat):Int)+(x.fill.length:Int))*_<=_;dsimp only;omega,by show 0+x.fill.length<=_;omega,dC,λ_ _=>rfl⟩ ?_⟩;refine⟨x.strk,rfl,Ob.mk ⟨by show((([]++x.fill:List Pnt).length:Int)+(x.strk.length:Int))*_<=_;rw[Qy];dsimp only;omega,by rw[Qy];omega,dC,λ_ _=>rfl⟩ ?_⟩;refine Ob.mk (by kernel_rfl) ?_;rw[Qy];generalize hP:x.fill++x.strk=P;have hPl:P.length<=6:=by rw[←hP,Xq];omega
  refine⟨Nat,λj=>⟨[(6,i64 (j:Int)),(5,.own 2),(4,.loc 1 0),(3,i64 (i:Int)),(1,.loc 0 0)],[(2,.arr 52 yD 40 P),(1,.box 48 (ndE x)),(0,.box 26 (scE s))],3,114,0⟩,λj=>j<=P.length/\∀p∈P.take j,ltP p,λj=>P.length-j,0,⟨Xh _,λp hp=>by cases hp⟩,?_,?_⟩
  ·exact zf [0,1,4]
  rintro j ⟨j1,j2⟩
  intro c0;refine⟨λq=>?_,λq=>?_⟩
  ·have q:(j:Int)<P.length:=q;refine Ob.o<|Ob.o ?_;intro p hp;have hp:P[j]?=some p:=hp;have hm:p∈x.fill++x.strk:=by rw[hP];exact Xf hp
   have badp:¬ltP p->LE (bl false) (pr (ltS s)):=λh=>bad λk=>h (k.2 p hm)
   refine zb.t (zuq p.t)<|⟨λk=>badp λw=>k w.1,λd1=>?_⟩;refine Ob.o<|Ob.o ?_;intro p2 hp2;have e2:p2=p:=Xm ((show P[j]?=some p2 from hp2).symm.trans hp);rw[e2];intro c1;refine⟨λk=>badp λw=>by have:=w.2.1;omega,λd2=>?_⟩;refine Ob.o<|Ob.o ?_;intro p3 hp3;have e3:p3=p:=Xm ((show P[j]?=some p3 from hp3).symm.trans hp);rw[e3];intro c2;refine⟨λk=>badp λw=>by have:=w.2.2;omega,λd3=>?_⟩;refine Ar.o ?_
   have okp:ltP p:=⟨Xa.1 d1,oM,oM⟩;refine⟨j+1,⟨oM,λw hw=>?_⟩,zf [0,1,2],by dsimp only;omega⟩;rw[Xl,hp]at hw
   rcases Xs.1 hw with hw|hw
   ·exact j2 w hw
   rw[show w=p by simpa using hw];exact okp
  have q:¬(j:Int)<P.length:=q;rw[Xi oM]at j2;refine Ar.o<|⟨i+1,⟨oM,λw hw=>?_⟩,zf [0],by dsimp only;omega⟩;rw[Xl,hx2]at hw
  rcases Xs.1 hw with hw|hw
  ·exact h2 w hw
  rw[show w=x by simpa using hw];exact⟨ok1,by rw[hP];exact j2⟩
def cl_S(q:List Sg)(hq:q.length<=1000):CG0 108 [.sl sgE q] [] (.sl sgE q) []:=by
 refine zc Tryz.func108 ?_
 by_cases h0:q=[]
 rotate_left;refine zeR.some (λh=>h0 (Xp h)) ?_;rotate_left;refine zeR.any (Br.mk (by subst h0;exact zD) ?_)
 all_goals
  refine⟨Sg,sgE,[],rfl,Ob.o2 ?_⟩;exact⟨q,rfl,Ob.mk ⟨(by show _*(56:Int)<=_;simp only[Xr];omega),(by simp only[Xr];omega),dC,λ_ _=>rfl⟩ .refl⟩
def cl_I(q:List Int)(hq:q.length<=1000):CG0 110 [.sl zV q] [] (.sl zV q) []:=by
 refine zc Tryz.func110 ?_
 by_cases h0:q=[]
 rotate_left;refine zeR.some (λh=>h0 (Xp h)) ?_;rotate_left;refine zeR.any (Br.mk (by subst h0;exact zD) ?_)
 all_goals
  refine⟨Int,zV,[],rfl,Ob.o2 ?_⟩;exact⟨q,rfl,Ob.mk ⟨(by show _*(8:Int)<=_;simp only[Xr];omega),(by simp only[Xr];omega),dC,λ_ _=>rfl⟩ .refl⟩
def cl_X(q:List Pix)(hq:q.length<=1000):CG0 111 [.sl zd3 q] [] (.sl zd3 q) []:=by
 refine zc Tryz.func111 ?_
 by_cases h0:q=[]
 rotate_left;refine zeR.some (λh=>h0 (Xp h)) ?_;rotate_left;refine zeR.any (Br.mk (by subst h0;exact zD) ?_)
 all_goals
  refine⟨Pix,zd3,[],rfl,Ob.o2 ?_⟩;exact⟨q,rfl,Ob.mk ⟨(by show _*(4:Int)<=_;simp only[Xr];omega),(by simp only[Xr];omega),dC,λ_ _=>rfl⟩ .refl⟩
def cl_T(q:List zh0)(hq:q.length<=1000):CG0 165 [.sl zc7 q] [] (.sl zc7 q) []:=by
 refine zc Tryz.func165 ?_
 by_cases h0:q=[]
 rotate_left;refine zeR.some (λh=>h0 (Xp h)) ?_;rotate_left;refine zeR.any (Br.mk (by subst h0;exact zD) ?_)
 all_goals
  refine⟨zh0,zc7,[],rfl,Ob.o2 ?_⟩;exact⟨q,rfl,Ob.mk ⟨(by show _*(16:Int)<=_;simp only[Xr];omega),(by simp only[Xr];omega),dC,λ_ _=>rfl⟩ .refl⟩
def cl_P(q:List Pnt)(hq:q.length<=1000):CG0 164 [.sl yD q] [] (.own 0) [(0,.arr 52 yD 40 q)]:=by
 refine qE tok mix Tryz.func164 rfl rfl rfl ?_
 by_cases h0:q=[]
 rotate_left;refine zeR.some (λh=>h0 (Xp h)) ?_;rotate_left;refine zeR.any (Br.mk ⟨none,.nil rfl,h0⟩ ?_)
 all_goals
  refine⟨Pnt,yD,[],rfl,Ob.o2 ?_⟩;exact⟨q,rfl,Ob.mk ⟨(by show _*(520:Int)<=_;simp only[Xr];omega),(by simp only[Xr];omega),dC,λ_ _=>rfl⟩ ⟨some 1,.own _ rfl,rfl,λ_ _=>rfl⟩⟩
def zaB(a:BI)(h:a.mag.length<=1000000):CG0 163 [.agg (biE a)] [] (.agg (biE a)) []:=by
 refine zc Tryz.func163 ?_;exact Dr.d<|zb.t (zn0 a.mag oM)<|Ob.mk (by kernel_rfl)<|.refl
def zll:List (List SV):=[[.loc 0 0],[.loc 0 4],[.loc 0 8],[.loc 0 12],[.loc 0 16],[.loc 0 20]]
def zrp:∀(i:Nat) x,zll[i]?=some x->∃x',zll[i]?=some x'/\ren.rens [(0,some 0),(1,some 1),(2,some 2)] x=some x':=λi x h=>⟨x,h,by
 have:=Xf h;simp only[zll,XZ,XW,or_false]at this
 rcases this with rfl|rfl|rfl|rfl|rfl|rfl <;> rfl⟩
def zzI(t:AF)(h:t.le 1000000):CG0 107 [.agg (afE t)] [] (.agg (afE t)) []:=by
 have big:∀q:BR,q.len<=1000000->q.num.mag.length<=1000000/\q.den.mag.length<=1000000:=λq k=>by unfold BR.len at k;omega
 obtain⟨h1,h2,h3,h4,h5,h6⟩:=h;refine zc Tryz.func107 ?_;refine⟨zll,rfl,Ob.mk ⟨rfl,dC,dC,dC,λx hx=>?_⟩ ?_⟩
 ·simp only[zll,XZ,XW,or_false]at hx
  rcases hx with rfl|rfl|rfl|rfl|rfl|rfl <;> rfl
 intro hl;refine⟨Nat,λi=>⟨[(13,i64 (i:Int)),(12,i64 6),(11,.own 2),(2,.loc 1 0),(1,.loc 0 0)],[(2,.garr 202 1 zll),(1,.box 38 ud),(0,.box 38 (afE t))],3,32,0⟩,λi=>i<=6,λi=>6-i,0,Xh _,?_,?_⟩
 ·exact zu [0,1,2] ⟨⟨_,rfl,rfl,zrp⟩,rfl,rfl,trivial⟩
 rintro i hi
 have hi:i<=6:=hi;refine⟨λg=>?_,λg=>.refl⟩;have g:(i:Int)<6:=g;refine Ob.mk (show 0<=(i:Int)/\(i:Int)<6 by omega)<|Ob.mk (show 0<=(i:Int)/\(i:Int)<6 by omega) ?_;intro x hx;have hx:zll[i]?=some x:=hx;have hc:i=0∨i=1∨i=2∨i=3∨i=4∨i=5:=oM;obtain⟨k,hk⟩:∃k,i+1=k:=⟨_,rfl⟩
 rcases hc with rfl|rfl|rfl|rfl|rfl|rfl
 all_goals
  cases hx
  refine Dr.d ?_
  first|refine zb.to _ (zaB t.a.num (big _ h1).1) rfl (zb.to _ (zaB t.a.den (big _ h1).2) rfl ?_)|refine zb.to _ (zaB t.b.num (big _ h2).1) rfl (zb.to _ (zaB t.b.den (big _ h2).2) rfl ?_)|refine zb.to _ (zaB t.c.num (big _ h3).1) rfl (zb.to _ (zaB t.c.den (big _ h3).2) rfl ?_)|
   refine zb.to _ (zaB t.d.num (big _ h4).1) rfl (zb.to _ (zaB t.d.den (big _ h4).2) rfl ?_)|refine zb.to _ (zaB t.e.num (big _ h5).1) rfl (zb.to _ (zaB t.e.den (big _ h5).2) rfl ?_)|refine zb.to _ (zaB t.f.num (big _ h6).1) rfl (zb.to _ (zaB t.f.den (big _ h6).2) rfl ?_)
  refine Ob.mk (by kernel_rfl)<|Ar.fit dC<|⟨k,oM,?_,by dsimp only;omega⟩;subst hk;exact zu [0,1,2] ⟨⟨_,rfl,rfl,zrp⟩,rfl,rfl,trivial⟩
variable{α:Type _}{i:Nat}
def zzJ{l:List α}{x:α}(h:l[i]?=some x):l.set i x=l:=by
 obtain⟨h1,h2⟩:=Xd.1 h;rw[←h2,List.set_getElem_self]
def znd(l:List Pnt)(hl:l.length<=1000)(hp:∀p∈l,ltP p):CG0 109 [.sl yD l] [] (.sl yD l) []:=by
 refine zc Tryz.func109 ?_;refine zb.fresh _ _ (cl_P l hl) rfl (λ_ _=>rfl) (.inl rfl) ?_;intro hl0;refine⟨Nat,λi=>⟨[(10,i64 (i:Int)),(9,i64 (l.length:Int)),(3,.own 0)],[(0,.arr 52 yD 40 l)],1,44,0⟩,λi=>i<=l.length,λi=>l.length-i,0,Xh _,?_,?_⟩
 ·exact zf [0]
 intro i hi;have hi:i<=l.length:=hi;refine⟨λg=>?_,λg=>.refl⟩;have g:(i:Int)<l.length:=g;obtain⟨p,hx⟩:∃p,l[i]?=some p:=⟨_,Xb oM⟩;obtain⟨g1,g2,g3⟩:=hp p (Xf hx);have hs:=zzJ hx;have r1:0<=(i:Int)/\(i:Int)<l.length:=oM;refine Ob.mk r1 ?_;have get:∀z,l[(i:Int).toNat]?=some z->z=p:=λz hz=>Xm ((show l[i]?=some z from hz).symm.trans hx)
 refine Dr.d<|Ob.mk r1 ?_;intro z hz;rw[get z hz];refine zb.t (cl_T p.st oM)<|Ob.mk r1 ?_;intro z hz;rw[get z hz];refine zb.t (cl_X p.im.px oM)<|Ob.mk r1 ?_;intro z hz;rw[get z hz];refine zb.t (zzI p.t (g1.up dC))<|Ob.mk r1 ?_;intro z hz;rw[get z hz];refine⟨p,rfl,?_⟩;rw[show l.set (i:Int).toNat p=l from hs];refine Ob.mk r1 ?_;intro z hz;rw[get z hz];refine⟨p,rfl,?_⟩;rw[show l.set (i:Int).toNat p=l from hs];refine Ob.mk r1 ?_;intro z hz;rw[get z hz];refine⟨p,rfl,?_⟩
 rw[show l.set (i:Int).toNat p=l from hs];exact Ob.mk (by kernel_rfl)<|Ar.o<|⟨i+1,by show i+1<=l.length;omega,zf [0],by dsimp only;omega⟩
def zBS(n:Nd)(h:ltN n):CG0 67 [.agg (ndE n)] [] (.agg (ndE n)) []:=by
 obtain⟨⟨h1,h2,h3,h4,h5,h6,h7⟩,h8⟩:=h;refine zc Tryz.func67 ?_;refine zb.t (zzI n.t (h5.up dC))<|Dr.d<|zb.t (cl_S n.clip oM)<|zb.t (cl_S n.path oM)<|Ob.mk (by kernel_rfl)<|Dr.d ?_;refine zb.t (znd n.fill oM λp hp=>h8 p (Qg _ hp))<|zb.t (znd n.strk oM λp hp=>h8 p (Qv _ hp))<|Ob.mk (by kernel_rfl)<|Dr.d<|zb.t (cl_I n.pen.d oM)<|zb.t (cl_X n.im.px oM) ?_;exact Ob.mk (by kernel_rfl)<|.refl
def zzK(s:Sc)(hl:s.ns.length<=1000)(h:∀n∈s.ns,ltN n):CG0 34 [.agg (scE s)] [] (.agg (scE s)) []:=by
 refine zc Tryz.func34 ?_;intro hl0;refine⟨Nat,λi=>⟨[(11,i64 (i:Int)),(10,i64 (s.ns.length:Int)),(9,.sl ndE s.ns),(3,.loc 2 0),(2,.loc 1 0)],[(3,nArr (s.ns.take i)),(2,.box 26 (scO s 3)),(1,.box 26 (vals [.int .i64 0,.int .i64 0,.int .u8 0,.int .u8 0,.int .u8 0,.int .u8 0,.slice none 0 0]))],4,24,0⟩,λi=>i<=s.ns.length,λi=>s.ns.length-i,0,Xh _,?_,?_⟩
 ·exact zC [(1,some 1),(2,some 2),(3,none)]
 intro i hi;have hi:i<=s.ns.length:=hi;refine⟨λg=>?_,λg=>?_⟩
 ·have g:(i:Int)<s.ns.length:=g;refine Ob.o ?_;intro n hx;have hx:s.ns[i]?=some n:=hx;refine Dr.d<|zb.t (zBS n (h n (Xf hx)))<|⟨Nd,ndE,[n],rfl,Ob.o5 ?_⟩;have hlen:(s.ns.take i).length<=1000:=by rw[Xo];omega
  refine⟨[n],rfl,Ob.mk ⟨by show(((s.ns.take i).length:Int)+1)*_<=_;dsimp only;omega,by show(s.ns.take i).length+1<=_;omega,dC,λx hx=>by rw[Xv.1 hx];rfl⟩ ?_⟩;exact Ob.mk (by kernel_rfl)<|Ar.o<|⟨i+1,by show i+1<=_;omega,zdy [(1,some 1),(2,some 2),(3,some 6)] ⟨Xg (λq=>some (nArr q)) (by rw[Xl,hx];rfl),rfl,rfl,trivial⟩,by dsimp only;omega⟩
 have g:¬(i:Int)<s.ns.length:=g;exact ji (.C (.C (.C (.C (.C (.C (.cons (z0 (Xi oM)) .nil)))))))
variable{rs:List (List Pt)}
def zzL{t:AF}(h:(yo rs t).2≠0):(yo rs t).1=[]:=by
 unfold yo at h ⊢
 by_cases h1:¬kL rs
 ·rw[Xe h1]
 rw[Xc h1]at h ⊢
 by_cases h2:zdf t rs≠0
 ·rw[Xe h2]
 rw[Xc h2]at h;exact absurd rfl h
variable{l:List Sg}{pen:Pen}{tol:Int}
def zur{t:AF}(h:(zay l pen t tol).2≠0):(zay l pen t tol).1=[]:=by
 unfold zay at h ⊢
 by_cases h1:¬kC pen
 ·rw[Xe h1]
 rw[Xc h1]at h ⊢
 by_cases h2:(zW l tol).2≠0
 ·rw[Xe h2]
 rw[Xc h2]at h ⊢
 by_cases h3:(jO (zW l tol).1 pen).2≠0
 ·rw[Xe h3]
 rw[Xc h3]at h ⊢
 by_cases h4:(qo (jO (zW l tol).1 pen).1 pen).2≠0
 ·rw[Xe h4]
 rw[Xc h4]at h ⊢;exact zzL h
def zfk(r:AF×Int)(l:List Sg)(pen:Pen):List (List Pt):=if r.2≠0 then[] else(zay l pen r.1 32).1
def zzM(r:AF×Int)(l:List Sg)(pen:Pen)(ht:r.1.le 100):CG0 49 [.agg (afE r.1++[pr (r.2=0)]),.sl sgE l,.agg (jb pen)] [] (.sl zk (zfk r l pen)) []:=by
 refine zc Tryz.func49 ?_;refine⟨λh=>by rw[show zfk r l pen=[] from Xe h];exact zD,λh=>?_⟩;have e:zfk r l pen=(zay l pen r.1 32).1:=Xc h;refine zb.t (zv5 l pen r.1 32 (ht.up dC)) ?_;rw[e];exact⟨λk=>by rw[zur k];exact zD,λ_=>.refl⟩
def zus(s:Sc)(i:Int)(ht:jE s):CG0 20 [.agg (scE s),i64 i] [] (.sl zk (zaH s i)) []:=by
 refine zc Tryz.func20 ?_;refine zb.t (zoQ s i ht)<|⟨λh=>by rw[zro (.inl h)];exact zD,λh1=>?_⟩;intro hl0;refine⟨λh=>by rw[zro (.inr oM)];exact zD,λh2=>?_⟩;refine zb.t (zzM (kg s i) (zZ s i).path (zZ s i).pen (zan s i)) ?_;rw[show zaH s i=zfk (kg s i) (zZ s i).path (zZ s i).pen from Xc λk=>k.elim h1 λq=>h2 oM];exact .refl
def ziB{t:AF}:∀{q:List Pt},qT t q=0->∀p∈q,(kr t p).2=0
 |p::r,h,z,hz=>by
  unfold qT at h
  by_cases k:(kr t p).2=0
  ·rw[Xc (λq=>q k)]at h
   cases hz with
   |head=>exact k
   |tail _ hz=>exact ziB h z hz
  rw[Xe k]at h;exact absurd h k
variable{p:Pt}
def zrq{t:AF}(h:(kr t p).2=0):zr (goP t p):=by
 unfold kr at h
 by_cases h1:t.ok
 ·rw[Xc (λk=>k h1)]at h
  by_cases h2:zr p
  ·rw[Xc (λk=>k h2)]at h
   by_cases h3:zr (goP t p)
   ·exact h3
   rw[Xc h3]at h;exact absurd h dC
  rw[Xe h2]at h;exact absurd h dC
 rw[Xe h1]at h;exact absurd h dC
def zsV{t:AF}(h:(trans t l).2=0):qN l/\(∀p∈qe l,(kr t p).2=0)/\(trans t l).1=l.map (zfb λp=>(kr t p).1):=by
 unfold trans at h ⊢
 by_cases h1:¬qN l
 ·rw[Xe h1]at h;exact absurd h dC
 rw[Xc h1]at h ⊢
 by_cases h2:qT t (qe l)≠0
 ·rw[Xe h2]at h;exact absurd h h2
 rw[Xc h2];have hv:qN l:=Xa.1 h1;refine⟨hv,ziB (Xa.1 h2),?_⟩;exact Qm λs hs=>zmY t (zkC (zaV.1 hv).2 s hs)
def zlm{ds:List Int}{d:Int}:∀{k j:Nat},j<k->ds[j]?=some d->(j:Int)<=yw ds d k
 |k+1,j,hj,h=>by
  unfold yw
  split
  ·omega
  rename_i hn
  by_cases e:j=k
  ·subst e;exact absurd h hn
  exact zlm oM h
def zrr{ds:List Int}:∀(n k:Nat),k<n->∀a∈qG ds k,a<=k
 |n+1,k,hn,a,ha=>by
  rw[jq]at ha
  rcases XZ.1 ha with rfl|ha
  ·exact Xk _
  have hp:=zeP ds k
  rcases QB (yh ds k) 0 with c|c
  ·rw[zaY c]at ha;cases ha
  obtain⟨j,hj⟩:=Qh c;rw[hj]at ha;have:=zrr n j oM a ha;omega
def zwe{w:AF×Int}(h:uM w l≠[]):w.2=0/\(yn l w.1 32).2=0/\uM w l=(yn l w.1 32).1:=by
 unfold uM at h ⊢
 by_cases c:w.2≠0
 ·rw[Xe c]at h;exact absurd rfl h
 rw[Xc c]at h ⊢;exact⟨Xa.1 c,Xa.1 λk=>h (zrc k),rfl⟩
def zwf{w:AF×Int}(h:zfk w l pen≠[]):w.2=0/\(zay l pen w.1 32).2=0/\zfk w l pen=(zay l pen w.1 32).1:=by
 unfold zfk at h ⊢
 by_cases c:w.2≠0
 ·rw[Xe c]at h;exact absurd rfl h
 rw[Xc c]at h ⊢;exact⟨Xa.1 c,Xa.1 λk=>h (zur k),rfl⟩
def zzN(s:Sc)(i:Int):zaH s i=if (zZ s i).k≠2∨(zZ s i).strk.length=0 then[] else zfk (kg s i) (zZ s i).path (zZ s i).pen:=rfl
def zwg{t:AF}(h:(yn l t tol).2=0):kL (yn l t tol).1:=by
 have ht:(trans t l).2=0:=by
  refine Xa.1 λk=>?_
  unfold yn at h;rw[Xe k]at h;exact k h
 obtain⟨v1,p1,e1⟩:=zsV ht
 obtain⟨f1,f2⟩:=zso (lo:=⟨-1048576,-1048576⟩) (hi:=⟨1048576,1048576⟩) h (λp hp=>by
  rw[e1,zAR]at hp;obtain⟨z,hz,rfl⟩:=XP.1 hp;rw[znc (p1 z hz)]
  exact zrq (p1 z hz))
 exact⟨oM,λr hr p hp=>f2 r hr p hp⟩
def zut(f:Pt->Pt):∀rs:List (List Pt),qb (rs.map (List.map f))=qb rs
 |[]=>rfl
 |r::rs=>by
  have ih:=zut f rs;unfold qb at ih ⊢;simp only[QO,Q6,Xx];rw[ih]
def zwh{t:AF}(h:(yo rs t).2=0):kL (yo rs t).1:=by
 have e:=zsU h
 have hr:kL rs/\zdf t rs=0:=by
  unfold yo at h
  by_cases k:kL rs
  ·rw[kH k]at h
   by_cases q:zdf t rs=0
   ·exact⟨k,q⟩
   rw[Xe q]at h;exact absurd h q
  rw[Xe k]at h;exact absurd h dC
 rw[e];refine⟨by rw[zut];exact hr.1.1,λr hr2 p hp=>?_⟩;obtain⟨r0,hr0,rfl⟩:=XP.1 hr2;obtain⟨p0,hp0,rfl⟩:=XP.1 hp;exact zrq (zh4 (zh5 hr.2 r0 hr0) p0 hp0)
def zzO{t:AF}(h:(zay l pen t tol).2=0):kL (zay l pen t tol).1:=by
 unfold zay at h ⊢
 by_cases a1:¬kC pen
 ·rw[Xe a1]at h;exact absurd h dC
 rw[Xc a1]at h ⊢
 by_cases a2:(zW l tol).2≠0
 ·rw[Xe a2]at h;exact absurd h a2
 rw[Xc a2]at h ⊢
 by_cases a3:(jO (zW l tol).1 pen).2≠0
 ·rw[Xe a3]at h;exact absurd h a3
 rw[Xc a3]at h ⊢
 by_cases a4:(qo (jO (zW l tol).1 pen).1 pen).2≠0
 ·rw[Xe a4]at h;exact absurd h a4
 rw[Xc a4]at h ⊢;exact zwh h
def za0:kL []:=⟨by show((0:Nat):Int)<=4096;decide,λr hr=>by cases hr⟩
def zh6(w:AF×Int)(l:List Sg):kL (uM w l):=by
 by_cases h:uM w l=[]
 ·rw[h];exact za0
 obtain⟨_,a2,a3⟩:=zwe h;rw[a3];exact zwg a2
def zwi(w:AF×Int)(l:List Sg)(pen:Pen):kL (zfk w l pen):=by
 by_cases h:zfk w l pen=[]
 ·rw[h];exact za0
 obtain⟨_,a2,a3⟩:=zwf h;rw[a3];exact zzO a2
def zcZ(s:Sc)(i:Int):∀l∈zaA s i,kL l:=λl hl=>by
 have h:l=zal s i∨l=zaH s i∨l=zeV s i:=by simpa[zaA] using hl
 rcases h with rfl|rfl|rfl
 ·unfold zal;split
  ·exact za0
  exact zh6 _ _
 ·rw[zzN];split
  ·exact za0
  exact zwi _ _ _
 unfold zeV;split
 ·exact za0
 exact zh6 _ _
def zEt(p q:Pt)(hp:zr p)(hq:zr q):zr (mnP p q):=by unfold zr mnP at*;dsimp only;omega
def zEu(p q:Pt)(hp:zr p)(hq:zr q):zr (mxP p q):=by unfold zr mxP at*;dsimp only;omega
def zzP(h:zg6 rs):zr (loR rs)/\zr (hiR rs):=by
 have hp:∀r∈rs.flatten,zr r:=λp hp=>by
  obtain⟨r,hr,hpr⟩:=J3.1 hp;exact h.2.2 r hr p hpr
 unfold loR hiR;rw[Xe h,Xe h];exact⟨zyf zEt hp,zyf zEu hp⟩
def upI(n:Int):Int:=(n+256-1)/2^8
def p_up(n:Int)(h: -1048576<=n/\n<=1048576):CG0 113 [i64 n] [] (i64 (upI n)) []:=by
 refine zc Tryz.func113 ?_;(iterate 2 refine Ar.o ?_);exact Ob.mk dC .refl
def zln(rs:List (List Pt)):Rc:=⟨(loR rs).x/2^8,(loR rs).y/2^8,upI (hiR rs).x,upI (hiR rs).y⟩
def pixR(rs:List (List Pt)):Rc:=if¬zg6 rs then ye else if (zln rs).x1<=(zln rs).x0∨(zln rs).y1<=(zln rs).y0 then ye else zln rs
def hi_in(h:zg6 rs):(-1048576<=(hiR rs).x/\(hiR rs).x<=1048576)/\ -1048576<=(hiR rs).y/\(hiR rs).y<=1048576:=by
 have:=(zzP h).2;unfold zr at this;omega
def zEv(rs:List (List Pt))(hc:kL rs):CG0 68 [.sl zk rs] [] (.agg (rcE (pixR rs))) []:=by
 refine zc Tryz.func68 ?_;refine zb.t (zEr rs (by have:=hc.1;omega))<|⟨λh=>zfh (p:=ye) (Xe h).symm,λh=>?_⟩;have hi:=hi_in (Xa.1 h);have e1:pixR rs=if (zln rs).x1<=(zln rs).x0∨(zln rs).y1<=(zln rs).y0 then ye else zln rs:=Xc h
 refine Dr.d<|Ob.o1<|Ob.o1<|zb.t (p_up _ hi.1)<|zb.t (p_up _ hi.2)<|Ob.mk (by kernel_rfl) ?_;refine⟨λa=>zfh (p:=ye) (by rw[e1,Xe (.inl a)]),λa=>?_⟩;refine⟨λb=>zfh (p:=ye) (by rw[e1,Xe (.inr b)]),λb=>?_⟩;exact zfh (p:=zln rs) (by rw[e1,Xc (λk=>k.elim a b)])
def zwj(a b:Rc):Rc:=if a.mt then b.canon else if b.mt then a else⟨min a.x0 b.x0,min a.y0 b.y0,max a.x1 b.x1,max a.y1 b.y1⟩
def zuu(a b:Rc):CG0 36 [.agg (rcE a),.agg (rcE b)] [] (.agg (rcE (zwj a b))) []:=by
 refine zc Tryz.func36 ?_;refine zb.t (zeO a)<|⟨λh=>?_,λh=>?_⟩
 ·exact zb.t (zg5 b)<|zfh (Xe h).symm
 refine zb.t (zeO b)<|⟨λk=>?_,λk=>?_⟩
 ·exact zfh (by unfold zwj;rw[Xc h,Xe k])
 exact zfh (p:=⟨min a.x0 b.x0,min a.y0 b.y0,max a.x1 b.x1,max a.y1 b.y1⟩) (by unfold zwj;rw[Xc h,Xc k])
def boxN(ls:List (List (List Pt))):Rc:=ls.foldl (λb l=>zwj b (pixR l)) ye
def zlO(s:Sc)(i:Int):Rc:=boxN (zaA s i)
def zCJ(l:List (List Pt)):List SV:=[.sl zk l]
def zEw(s:Sc)(i:Int)(ht:jE s):CG0 35 [.agg (scE s),i64 i] [] (.agg (rcE (zlO s i))) []:=by
 have hg:=zcZ s i;refine zc Tryz.func35 ?_;refine Dr.d<|zb.t (zuo s i ht)<|zb.t (zus s i ht)<|zb.t (zzE s i ht)<|⟨List (List Pt),zCJ,zaA s i,rfl,Ob.o0 ?_⟩;intro hl;refine Ob.mk (by kernel_rfl)<|⟨Nat,λn=>⟨[(19,i64 (n:Int)),(18,i64 3),(17,.own 3),(5,.loc 2 0),(4,.loc 1 0)],[(3,.arr 67 zCJ 1 (zaA s i)),(2,.box 62 (rcE (boxN ((zaA s i).take n)))),(1,.box 62 (rcE ye))],4,29,0⟩,λn=>n<=3,λn=>3-n,0,Xh _,?_,?_⟩
 ·exact zC [(1,some 1),(2,some 2),(3,some 3)]
 rintro n hn
 have hn:n<=3:=hn;refine⟨λg=>?_,λg=>?_⟩
 ·have g:(n:Int)<3:=g;have r1:0<=(n:Int)/\(n:Int)<(zaA s i).length:=⟨oM,g⟩;refine Ob.mk r1<|Ob.mk r1 ?_;intro l hx;have hx:(zaA s i)[n]?=some l:=hx;refine Dr.d<|zb.t (zEv l (hg l (Xf hx)))<|zb.t (zuu (boxN ((zaA s i).take n)) (pixR l))<|Ob.mk (by kernel_rfl)<|Ar.o ?_
  exact⟨n+1,by show n+1<=3;omega,zdy [(1,some 1),(2,some 2),(3,some 3)] ⟨rfl,Xg (λq=>some (Mem.box 62 (rcE q))) (by unfold boxN;rw[Xl,hx,KW];rfl),rfl,trivial⟩,by dsimp only;omega⟩
 obtain rfl:n=3:=by have g:¬(n:Int)<3:=g;omega
 exact .refl
def w_cnt(a b p:Pt)(n:Int)(hn: -1000000<=n/\n<=1000000):
  CG0 83 [.agg (ptE a),.agg (ptE b),.ptr (ptE p),.loc 0 0] [(0,.box 3 [i64 n])] (.tup []) [(0,.box 3 [i64 (n+zao a b p)])]:=by
 refine uo tok mix Tryz.func83 rfl rfl rfl rfl rfl ?_;have fin:∀{d:Int},zao a b p=d->some (Mem.box 3 [i64 (n+d)])=some (Mem.box 3 [i64 (n+zao a b p)]):=λh=>by rw[h]
 refine⟨λh1=>?_,λh1=>?_⟩;refine⟨λh2=>?_,λh2=>?_⟩;refine zb.t (zzR a b p)<|⟨λh3=>Ar.fit oM ⟨fin (zuv h1 h2 h3),.refl⟩,λh3=>?_⟩
 all_goals
  have h0:¬(a.y<=p.y/\p.y<b.y/\0<sgn (orP a b p)):=λh=>by first|exact h3 h.2.2|exact h2 h.2.1|exact h1 h.1
  have sec:¬(b.y<=p.y/\p.y<a.y/\0<sgn (orP b a p))->some (Mem.box 3 [i64 n])=some (Mem.box 3 [i64 (n+zao a b p)]):=λk=>by rw[←fin (zuw h0 k),J5]
  refine⟨λk1=>?_,λk1=>⟨sec λh=>k1 h.1,.refl⟩⟩;refine⟨λk2=>?_,λk2=>⟨sec λh=>k2 h.2.1,.refl⟩⟩;exact zb.t (zzR b a p)<|⟨λk3=>Ar.fit oM ⟨fin (zjd h0 k1 k2 k3),.refl⟩,λk3=>⟨sec λh=>k3 h.2.2,.refl⟩⟩
def boxI{T:TypeId}{m n:Int}(h:m=n):some (Mem.box T [i64 m])=some (Mem.box T [i64 n]):=by rw[h]
def zBT(r:List Pt)(p:Pt)(c:Int)(hc: -4096<=c/\c<=4096)(hr:r.length<=4096):
  CG0 85 [.sl ptE r,.fn 83 [.loc 0 0,.loc 1 0]] [(0,.box 28 (ptE p)),(1,.box 3 [i64 c])] (.tup [])
   [(0,.box 28 (ptE p)),(1,.box 3 [i64 (c+zaI r p r.length)])]:=by
 refine yy tok mix Tryz.func85 rfl rfl rfl ?_;intro hl1
 refine⟨Nat,λi=>⟨[(8,i64 (i:Int)),(7,i64 (r.length:Int)),(6,.sl ptE r),(0,.sl ptE r),(1,.fn 83 [.loc 0 0,.loc 1 0])],[(0,.box 28 (ptE p)),(1,.box 3 [i64 (c+zaI r p i)])],2,25,2⟩,
  λi=>i<=r.length,λi=>r.length-i,0,Xh _,?_,?_⟩
 ·exact zu [0,1] ⟨rfl,boxI (J5 c).symm,trivial⟩
 rintro i h1
 have h1:i<=r.length:=h1;refine⟨λg=>?_,λg=>?_⟩
 ·have g:(i:Int)<r.length:=g;refine Ob.o ?_;intro x hx;have hx:r[i]?=some x:=hx;refine Dr.d<|Ar.o ?_;intro hl2;refine Dv.pos ⟨oM,oM⟩ ?_;have q1:=Kb ((i:Int)+1) (b:=(r.length:Int)) oM;have q2:=X3 ((i:Int)+1) (b:=(r.length:Int)) oM;refine Ob.mk ⟨q1,q2⟩ ?_;intro y hy;have hw:=zec r p i;refine zb.hand 1 _ _ _ rfl (w_cnt x y p (c+zaI r p i) oM) rfl rfl rfl rfl<|Ob.mk (by kernel_rfl)<|Ar.o ?_
  exact⟨i+1,by show i+1<=r.length;omega,zu [0,1] ⟨rfl,boxI (by rw[zne hx hy oM,Yw]),trivial⟩,by dsimp only;omega⟩
 obtain rfl:i=r.length:=by have g:¬(i:Int)<r.length:=g;omega
 exact⟨_,.refl,rfl,.refl⟩
def zux(h:¬zr p):0=zlp rs p:=(Xc λk=>h k.2).symm
def zEz(rs:List (List Pt))(p:Pt)(hr:kL rs):CG0 46 [.sl zk rs,.agg (ptE p)] [] (i64 (zlp rs p)) []:=by
 have hr1:qb rs<=4096:=by have:=hr.1;omega
 refine zc Tryz.func46 ?_;refine zb.t (k8 p)<|⟨λh=>ze (zux h),λh=>?_⟩;refine zb.t (zgz rs λr hm=>by have:=vw hm;omega)<|⟨λk=>absurd hr k,λ_=>?_⟩;intro hl
 refine⟨Nat,λi=>⟨[(20,i64 (i:Int)),(19,i64 (rs.length:Int)),(18,.sl zk rs),(6,.fn 83 [.loc 0 0,.loc 1 0]),(5,.loc 1 0)],[(0,.box 28 (ptE p)),(1,.box 3 [i64 (zbG rs p i)])],2,29,0⟩,
  λi=>i<=rs.length,λi=>rs.length-i,0,Xh _,?_,?_⟩
 ·exact zf [0,1]
 rintro i h1
 have h1:i<=rs.length:=h1;refine⟨λg=>?_,λg=>?_⟩
 ·have g:(i:Int)<rs.length:=g;refine Ob.o ?_;intro r hx;have hx:rs[i]?=some r:=hx;have hw:=zbH rs p i h1;have h2:=v7 rs i;have h3:=vw (Xf hx)
  refine zb.give [0,1] 0 [.sl ptE r,.fn 83 [.loc 0 0,.loc 1 0]] [(0,.box 28 (ptE p)),(1,.box 3 [i64 (zbG rs p i)])]
   [(0,.box 28 (ptE p)),(1,.box 3 [i64 (zbG rs p i+zaI r p r.length)])] (.tup []) (zBT r p (zbG rs p i) oM oM) LEs.refl rfl rfl rfl ⟨⟨_,rfl,rfl,rfl⟩,⟨_,rfl,rfl,rfl⟩,trivial⟩ rfl ⟨⟨rfl,rfl⟩,⟨rfl,rfl⟩,trivial⟩ ?_
  exact Ar.o<|⟨i+1,by show i+1<=rs.length;omega,zu [0,1] ⟨rfl,boxI (zfT hx).symm,trivial⟩,by dsimp only;omega⟩
 obtain rfl:i=rs.length:=by have g:¬(i:Int)<rs.length:=g;omega
 exact ze (Xe ⟨hr,Xa.1 h⟩).symm
def zEA(rs:List (List Pt))(p:Pt)(hr:kL rs):CG0 58 [.sl zk rs,.agg (ptE p)] [] (i64 (zlp rs p)) []:=by
 have hr1:qb rs<=4096:=by have:=hr.1;omega
 refine zc Tryz.func58 ?_;refine zb.t (zkr rs)<|⟨λk=>absurd hr k,λ_=>?_⟩;refine zb.t (z9 p)<|⟨λh=>ze (zux h),λh=>?_⟩
 refine⟨Nat,λi=>⟨[(6,i64 (i:Int)),(5,i64 (zbG rs p i)),(3,.loc 0 0),(0,.sl zk rs)],[(0,.box 28 (ptE p))],1,49,0⟩,
  λi=>i<=rs.length,λi=>rs.length-i,0,Xh _,?_,?_⟩
 ·exact zf [0]
 rintro i h1
 have h1:i<=rs.length:=h1;intro hl;refine⟨λg=>?_,λg=>?_⟩
 ·have g:(i:Int)<rs.length:=g;obtain⟨r,hx⟩:∃r,rs[i]?=some r:=⟨_,Xb oM⟩;have get:∀z,rs[i]?=some z->z=r:=λz hz=>Xm (hz.symm.trans hx)
  have hw:=zbH rs p i h1;have h2:=v7 rs i;have h3:=vw (Xf hx)
  refine⟨Nat,λj=>⟨[(7,i64 (j:Int)),(6,i64 (i:Int)),(5,i64 (zbG rs p i+zaI r p j)),(3,.loc 0 0),(0,.sl zk rs)],[(0,.box 28 (ptE p))],1,49,0⟩,
   λj=>j<=r.length,λj=>r.length-j,0,Xh _,?_,?_⟩
  ·exact zT [0] ⟨rfl,rfl,Xg (λq=>some (i64 q)) (J5 _).symm,rfl,rfl,trivial⟩ ⟨rfl,trivial⟩
  rintro j k1
  have k1:j<=r.length:=k1;refine Ob.o ?_;intro z hz;rw[get z hz];intro hl2;refine⟨λg=>?_,λg=>?_⟩
  ·have g:(j:Int)<r.length:=g;refine Dr.k<|Ob.o ?_;intro z hz;rw[get z hz];refine Ob.o ?_;intro x hx2;have hx2:r[j]?=some x:=hx2;refine Ob.o ?_;intro z hz;rw[get z hz];have hj:(j+1)%r.length<r.length:=Kk _ oM;obtain⟨y,hy0⟩:∃y,r[(j+1)%r.length]?=some y:=⟨_,Xb hj⟩;have hy:r[(((j:Int)+1)%(r.length:Int)).toNat]?=some y:=by rw[ziZ oM,XT];exact hy0
   refine zb.t (zxY r j y ⟨oM,oM⟩ hy)<|zb.t (zEy x y p) ?_;have hw2:=zec r p j;have ht:=ziC x y p;(iterate 2 refine Ar.o ?_);exact⟨j+1,by show j+1<=r.length;omega,zT [0] ⟨rfl,rfl,Xg (λq=>some (i64 q)) (by rw[zne hx2 hy oM,Yw]),rfl,rfl,trivial⟩ ⟨rfl,trivial⟩,by dsimp only;omega⟩
  obtain rfl:j=r.length:=by have g:¬(j:Int)<r.length:=g;omega
  exact Ar.o<|⟨i+1,by show i+1<=rs.length;omega,zT [0] ⟨rfl,Xg (λq=>some (i64 q)) (zfT hx).symm,rfl,rfl,trivial⟩ ⟨rfl,trivial⟩,by dsimp only;omega⟩
 obtain rfl:i=rs.length:=by have g:¬(i:Int)<rs.length:=g;omega
 exact ze (Xe ⟨hr,Xa.1 h⟩).symm
def zBU{n:Int}(h: -9223372036854775808<=n/\n<=9223372036854775807):vk .and .i64 n (-1)=n:=by
 show IntKind.i64.wrap ((BitVec.ofInt 64 n&&&BitVec.ofInt 64 (-1)).toNat:Nat)=_;rw[show BitVec.ofInt 64 (-1)=BitVec.allOnes 64 from by decide,BitVec.and_allOnes,K5];simp only[IntKind.wrap,IntKind.bits,IntKind.signed];simp;omega
def zzS(n:Int):vk .and .i64 n 0=0:=by
 show IntKind.i64.wrap ((BitVec.ofInt 64 n&&&BitVec.ofInt 64 0).toNat:Nat)=_;rw[show BitVec.ofInt 64 0=0#64 from by decide,BitVec.and_zero];decide
def zBV(n rule:Int)(h: -4096<=n/\n<=4096):CG0 45 [i64 n,i64 rule] [] (pr (zc0 n rule)) []:=by
 refine zc Tryz.func45 ?_;have e1:=zAr (q:=n) 1 dC;refine⟨λk=>absurd k dC,λ_=>?_⟩;refine⟨λk=>?_,λk=>?_⟩
 ·refine⟨_,rfl,zE ?_⟩;rw[zBU oM];unfold zc0;omega
 refine⟨λk2=>?_,λk2=>?_⟩
 ·refine⟨_,rfl,zE ?_⟩;rw[show(1:Int)=2^1-1 from rfl,e1];unfold zc0;omega
 refine⟨_,rfl,zE ?_⟩;rw[zzS];unfold zc0;omega
def zBW(n rule:Int):CG0 57 [i64 n,i64 rule] [] (pr (zc0 n rule)) []:=by
 refine zc Tryz.func57 ?_;have e:=tm2 n;refine⟨λh1=>?_,λh1=>?_⟩;refine⟨λh2=>zI (.inl ⟨h1,h2⟩),λh2=>?_⟩
 all_goals
  refine⟨λh3=>Dv.any dC (zE ?_),λh3=>zd ?_⟩
  all_goals unfold zc0;omega
def zg9(rs:List (List Pt))(rule:Int)(p:Pt)(hr:kL rs):CG0 18 [.sl zk rs,i64 rule,.agg (ptE p)] [] (pr (uu rs rule p)) []:=by
 refine zc Tryz.func18 ?_;exact zb.t (zEz rs p hr)<|zb.to _ (zBV _ rule (zrs rs p)) rfl .refl
def zha(rs:List (List Pt))(rule:Int)(p:Pt)(hr:kL rs):CG0 26 [.sl zk rs,i64 rule,.agg (ptE p)] [] (pr (uu rs rule p)) []:=by
 refine zc Tryz.func26 ?_;exact zb.t (zEA rs p hr)<|zb.to _ (zBW _ rule) rfl .refl
def dN(l:List Nd)(k:Nat):Int:=(zH l).getD k 0
def zlq{l:List Nd}{k:Nat}{n:Nd}(h:l[k]?=some n):dN l k=n.d:=by unfold dN;rw[Xt,yQ h];rfl
def zlr{l:List Nd}{k:Nat}(h:k<l.length):(zH l)[k]?=some (dN l k):=by
 rw[zlq (Xb h)];exact yQ (Xb h)
def znf{ds:List Int}(h:zd6 ds){b:Nat}{x e:Int}(hb:ds[b]?=some x)(hx:x<=e):∀{k:Nat} {d:Int},b<=k->ds[k]?=some d->e<d->∃j,b<=j/\j<k/\ds[j]?=some e
 |0,d,hk,hd,hl=>by
  obtain rfl:b=0:=oM;rw[hb]at hd;cases hd;omega
 |k+1,d,hk,hd,hl=>by
  obtain⟨a,ha⟩:∃a,ds[k]?=some a:=⟨_,Xb (by have:=(Xd.1 hd).1;omega)⟩;have hs:=h.2.2 k a d ha hd
  by_cases hb':b=k+1
  ·subst hb';rw[hb]at hd;cases hd;omega
  by_cases c:a=e
  ·exact⟨k,oM,oM,by rw[ha,c]⟩
  obtain⟨j,h1,h2,h3⟩:=znf h hb hx oM ha oM;exact⟨j,h1,oM,h3⟩
def zls(l:List Nd)(i e:Nat):Prop:=i<e/\e<=l.length/\(∀j,i<j->j<e->dN l i<dN l j)/\(e<l.length->dN l e<=dN l i)
def zuy(l:List Nd)(i:Nat):∀(m k:Nat),k+m=l.length->i<k->(∀j,i<j->j<k->dN l i<dN l j)->∃e,zls l i e
 |0,k,h,hi,hd=>⟨k,hi,oM,hd,λq=>by omega⟩
 |m+1,k,h,hi,hd=>by
  by_cases c:dN l i<dN l k
  ·refine zuy l i m (k+1) oM oM λj h1 h2=>?_
   by_cases e:j=k
   ·rw[e];exact c
   exact hd j h1 oM
  exact⟨k,hi,oM,hd,λ_=>by omega⟩
def zsW{l:List Nd}{k:Nat}(hk:k<l.length)(h:yh (zH l) k=i):i<k/\dN l k=dN l i+1:=by
 have h0:=zcm (zH l) (dN l k-1) k;have e:yh (zH l) k=yw (zH l) (dN l k-1) k:=rfl;rw[e]at h;rw[h]at h0;have h1:=h0.2.2 oM;have h2:(zH l)[i]?=some (dN l k-1):=h1;have h3:i<k:=oM;rw[zlr oM]at h2;have:=Xm h2;exact⟨h3,oM⟩
variable{e:Nat}
def zBX{l:List Nd}{k:Nat}(he:zls l i e)(h1:i<k)(h2:k<e):yh (zH l) k=i↔dN l k=dN l i+1:=by
 have hle:=he.2.1;refine⟨λh=>(zsW oM h).2,λh=>?_⟩
 have ep:yh (zH l) k=yw (zH l) (dN l i) k:=by
  show yw (zH l) (dN l k-1) k=_;rw[h,Int.add_sub_cancel]
 have g:=zlm (d:=dN l i) h1 (zlr oM);have hl:=zcm (zH l) (dN l i) k;rw[ep];refine Yb (Jr.1 λq=>?_) g;obtain⟨j,hj⟩:=Qh (show 0<=yw (zH l) (dN l i) k by omega);have h3:=hl.2.2 oM;rw[hj]at h3 q hl;have h3:(zH l)[j]?=some (dN l i):=h3;have hd:=he.2.2.1 j oM oM;rw[zlr oM]at h3;have:=Xm h3;omega
def zBY{l:List Nd}(hs:zd6 (zH l)){k:Nat}(he:zls l i e)(h1:e<=k)(h2:k<l.length):yh (zH l) k≠i:=λh=>by
 obtain⟨a,b⟩:=zsW h2 h;have h3:=he.2.2.2 oM;obtain⟨j,j1,j2,j3⟩:=znf hs (zlr (l:=l) (k:=e) oM) h3 h1 (zlr h2) oM;have g:=zlm j2 j3
 have ep:yh (zH l) k=yw (zH l) (dN l i) k:=by
  show yw (zH l) (dN l k-1) k=_;rw[b,Int.add_sub_cancel]
 have:=he.1;omega
def zed(l:List Nd)(i n:Nat):List Int:=((List.range n).filter λk=>decide (yh (zH l) k=i)).map λk:Nat=>(k:Int)
def zuz{l:List Nd}{n:Nat}(h:yh (zH l) n=i):zed l i (n+1)=zed l i n++[(n:Int)]:=by
 unfold zed;rw[Kx,KO,XB];simp[h]
def zoU{l:List Nd}{n:Nat}(h:¬yh (zH l) n=i):zed l i (n+1)=zed l i n:=by
 unfold zed;rw[Kx,KO,XB];simp[h]
def zuA(l:List Nd)(i:Nat):∀n,n<=i+1->zed l i n=[]
 |0,_=>rfl
 |n+1,h=>by
  rw[zoU λk=>by have:=zeP (zH l) n;omega];exact zuA l i n oM
def zrt{l:List Nd}(hs:zd6 (zH l)){i e:Nat}(he:zls l i e):∀m,e+m<=l.length->zed l i (e+m)=zed l i e
 |0,_=>rfl
 |m+1,h=>by
  rw[←KB,zoU (zBY hs he oM oM)];exact zrt hs he m oM
def zuB(l:List Nd)(i n:Nat):(zed l i n).length<=n:=by
 unfold zed;rw[Xx];have:=KY (λk=>decide (yh (zH l) k=i)) (List.range n)
 rwa [Jm]at this
def zaC(s:Sc)(i:Nat):List Int:=zed s.ns i s.ns.length
def zEB{s:Sc}{k:Int}(h:k∈zaC s i):∃m:Nat,k=m/\m<s.ns.length/\dN s.ns m=dN s.ns i+1:=by
 unfold zaC zed at h;obtain⟨m,hm,rfl⟩:=XP.1 h;obtain⟨h1,h2⟩:=QL.1 hm;have h1:=Kd.1 h1;exact⟨m,rfl,h1,(zsW h1 (of_decide_eq_true h2)).2⟩
def zBZ{xs:List α}(h:xs=[]):Nat.beq xs.length 0=true:=by rw[h];rfl
def s_end(l:List Nd)(i e:Nat)(h:zls l i e)(hl:l.length<=64):CG0 52 [.sl ndE l,i64 (i:Int)] [] (i64 (e:Int)) []:=by
 obtain⟨h1,h2,h3,h4⟩:=h;refine zc Tryz.func52 ?_;refine Ar.o<|⟨Nat,λk=>⟨[(5,i64 (k:Int)),(1,i64 (i:Int)),(0,.sl ndE l)],[],0,28,0⟩,λk=>i<k/\k<=e,λk=>e-k,i+1,⟨oM,oM⟩,?_,?_⟩
 ·exact zC []
 rintro k ⟨hk,he⟩
 refine Dr.k ?_;intro hl0;refine⟨λg=>?_,λg=>?_⟩
 ·have g:(k:Int)<l.length:=g;refine Ob.o ?_;intro x hx;have ex:=zlq (show l[k]?=some x from hx);refine Ob.o ?_;intro y hy;have ey:=zlq (show l[i]?=some y from hy);refine⟨λc=>?_,λc=>?_⟩
  ·have c:y.d<x.d:=c
   have hlt:k<e:=Nat.lt_of_le_of_ne he λq=>by
    subst q;have:=h4 oM;omega
   exact Ar.o<|⟨k+1,⟨oM,hlt⟩,zC [],by dsimp only;omega⟩
  have c:¬y.d<x.d:=c;refine ze (Xg Int.ofNat (Nat.le_antisymm he (Nat.not_lt.1 λq=>?_)));have:=h3 k hk q;omega
 have g:¬(k:Int)<l.length:=g;exact ze oM
def zEC(s:Sc)(i:Nat)(ht:zcn s)(hi:inS s i):CG0 22 [.agg (scE s),i64 (i:Int)] [] (.sl zV (zaC s i)) []:=by
 have hs:=zak hi.1;have hl:=uO hi.1;have hlt:i<s.ns.length:=by have:=hi.2.2;omega
 obtain⟨n,hn⟩:∃n,s.ns[i]?=some n:=⟨_,Xb hlt⟩;have en:=zlq hn;have hdp:=yE hi.1 n (Xf hn);obtain⟨e,he⟩:=zuy s.ns i (s.ns.length-(i+1)) (i+1) oM oM λj h1 h2=>oM
 have he1:=he.1;have he2:=he.2.1;refine zc Tryz.func22 ?_;refine⟨λ_=>?_,λk=>by have k:¬¬(i:Int)= -1:=k;omega⟩;refine zb.t (zzo s i ht)<|⟨λk=>absurd hi k,λ_=>?_⟩;refine zb.t (zjb s ht)<|⟨λk=>absurd hi.1 k,λ_=>?_⟩;refine Dr.k ?_;intro hl0;refine⟨λ_=>?_,λk=>by have k:¬(0:Int)<=i:=k;omega⟩;refine Dr.k<|Ob.o ?_;intro x hx;rw[show x=n from Xm ((show s.ns[i]?=some x from hx).symm.trans hn)];(iterate 2 refine Ar.o ?_)
 refine zb.t (s_end s.ns i e he hl)<|⟨Nat,λk=>⟨[(9,i64 (k:Int)),(8,.own 1),(7,i64 (e:Int)),(5,i64 (n.d+1)),(2,.loc 0 0)],[(1,.arr 3 zV 1 (zed s.ns i k)),(0,.box 26 (scE s))],2,60,0⟩,λk=>i<k/\k<=e,λk=>e-k,i+1,⟨oM,oM⟩,?_,?_⟩
 ·exact zdy [(0,some 0),(1,none)] ⟨zBZ (zuA s.ns i (i+1) (Xk _)),rfl,trivial⟩
 rintro k ⟨hk,hke⟩
 refine⟨λg=>?_,λg=>?_⟩
 ·have g:(k:Int)<e:=g;refine Ob.o ?_;intro x hx;have ex:=zlq (show s.ns[k]?=some x from hx);have hp:=zBX he hk (show k<e by omega);have hkl:=zuB s.ns i k;refine⟨λc=>?_,λc=>?_⟩
  ·have c:x.d=n.d+1:=c;refine⟨Int,zV,[(k:Int)],rfl,Ob.o5 ?_⟩;refine⟨[(k:Int)],rfl,Ob.mk ⟨by show(((zed s.ns i k).length:Int)+1)*8<=_;omega,by rw[Kc];omega,dC,λx hx=>by rw[Xv.1 hx];rfl⟩ ?_⟩;exact Ar.o<|⟨k+1,⟨oM,oM⟩,zu [0,3] ⟨Xg (λq=>some (Mem.arr 3 zV 1 q)) (zuz (hp.2 oM)).symm,rfl,trivial⟩,by dsimp only;omega⟩
  have c:¬x.d=n.d+1:=c;exact Ar.o<|⟨k+1,⟨oM,oM⟩,zu [0,1] ⟨Xg (λq=>some (Mem.arr 3 zV 1 q)) (zoU λq=>by have:=hp.1 q;omega).symm,rfl,trivial⟩,by dsimp only;omega⟩
 obtain rfl:k=e:=by have g:¬(k:Int)<e:=g;omega
 refine z0 ?_;have:=zrt hs he (s.ns.length-k) oM;rw[show k+(s.ns.length-k)=s.ns.length by omega]at this;exact this.symm
def zB0(s:Sc)(i:Nat)(ht:zcn s)(hi:inS s i):CG0 30 [.agg (scE s),i64 (i:Int)] [] (.sl zV (zaC s i)) []:=by
 have hl:=uO hi.1;have hdp:=yE hi.1;refine zc Tryz.func30 ?_;refine⟨Int,zV,[],rfl,Ob.o2 ?_⟩;refine⟨λ_=>?_,λk=>by have k:¬¬(i:Int)= -1:=k;omega⟩;refine zb.t (zrj s i ht)<|⟨λk=>absurd hi k,λ_=>?_⟩;refine zb.t (zeb s ht)<|⟨λk=>absurd hi.1 k,λ_=>?_⟩;refine⟨Nat,λk=>⟨[(6,i64 (k:Int)),(5,.own 1),(2,.loc 0 0),(1,i64 (i:Int))],[(1,.arr 3 zV 1 (zed s.ns i k)),(0,.box 26 (scE s))],2,40,0⟩,λk=>k<=s.ns.length,λk=>s.ns.length-k,0,Xh _,?_,?_⟩
 ·exact zf [0,1]
 rintro k hk
 have hk:k<=s.ns.length:=hk;intro hl0;refine⟨λg=>?_,λg=>?_⟩
 ·have g:(k:Int)<s.ns.length:=g;obtain⟨y,hy⟩:∃y,s.ns[k]?=some y:=⟨_,Xb oM⟩;refine zb.t (zzy s.ns k y hy hdp hl) ?_;have hkl:=zuB s.ns i k;refine⟨λc=>?_,λc=>?_⟩
  ·have c:yh (zH s.ns) k=i:=c;refine⟨Int,zV,[(k:Int)],rfl,Ob.o5 ?_⟩;refine⟨[(k:Int)],rfl,Ob.mk ⟨by show(((zed s.ns i k).length:Int)+1)*8<=_;omega,by rw[Kc];omega,dC,λx hx=>by rw[Xv.1 hx];rfl⟩ ?_⟩;exact Ar.o<|⟨k+1,by show k+1<=s.ns.length;omega,zu [0,3] ⟨Xg (λq=>some (Mem.arr 3 zV 1 q)) (zuz c).symm,rfl,trivial⟩,by dsimp only;omega⟩
  have c:¬yh (zH s.ns) k=i:=c;exact Ar.o<|⟨k+1,by show k+1<=s.ns.length;omega,zu [0,1] ⟨Xg (λq=>some (Mem.arr 3 zV 1 q)) (zoU c).symm,rfl,trivial⟩,by dsimp only;omega⟩
 obtain rfl:k=s.ns.length:=by have g:¬(k:Int)<s.ns.length:=g;omega
 exact .refl
def zCK(s:Sc)(i:Int)(ht:zcn s):CG0 42 [.agg (scE s),i64 i] [] (.sl zV (je s i)) []:=by
 refine zc Tryz.func42 ?_;refine zb.t (zzo s i ht)<|⟨λh=>by rw[show je s i=[] from Xc h];exact zD,λh=>?_⟩;have h:inS s i:=Xa.1 h;obtain⟨i,rfl⟩:∃k:Nat,i=(k:Int):=⟨i.toNat,by have:=h.2.1;omega⟩;have hl:=uO h.1;have hdp:=yE h.1;have hlt:i<s.ns.length:=by have:=h.2.2;omega
 have ea:je s i=zaz ((qG (zH s.ns) i).reverse):=Xe h
 refine⟨Int×List Int,λz=>⟨[(6,i64 z.1),(5,.own 1),(2,.loc 0 0)],[(1,.arr 3 zV 1 z.2),(0,.box 26 (scE s))],2,23,0⟩,
  λz=>(-1<=z.1/\z.1<s.ns.length/\z.2.length<=100)/\zaz ((qG (zH s.ns) z.1).reverse)++z.2=je s i/\z.1+z.2.length<=64,λz=>(z.1+1).toNat,(i,[]),⟨⟨by dsimp only;omega,by dsimp only;omega,Xh _⟩,by rw[ea,XE],by dsimp only;rw[Xr];omega⟩,?_,?_⟩
 ·exact zC [(0,some 0),(1,none)]
 rintro⟨k,out⟩ ⟨⟨k1,k2,k3⟩,k4,k5⟩
 dsimp only at k1 k2 k3 k4 k5 ⊢;refine⟨λg=>?_,λg=>?_⟩
 ·have g:0<=k:=g;obtain⟨k,rfl⟩:∃q:Nat,k=(q:Int):=⟨k.toNat,oM⟩;obtain⟨y,hy⟩:∃y,s.ns[k]?=some y:=⟨_,Xb oM⟩;have hp:=zeP (zH s.ns) k;refine⟨Int,zV,[(k:Int)],rfl,Ob.o5 ?_⟩;refine⟨out,rfl,Ob.mk ⟨by show((([(k:Int)]:List Int).length:Int)+(out.length:Int))*8<=_;rw[Kc];omega,by rw[Kc];omega,dC,λ_ _=>rfl⟩ ?_⟩;refine zb.t (zzp s.ns k y hy hdp hl) ?_
  refine⟨(yh (zH s.ns) k,(k:Int)::out),⟨⟨hp.1,by dsimp only;omega,by dsimp only;rw[Xn];omega⟩,?_,by dsimp only;rw[Xn];omega⟩,zf [0,3],by dsimp only;omega⟩;dsimp only;rw[←k4,jq (zH s.ns) k,List.reverse_cons];unfold zaz;rw[XB,XY];rfl
 have g:¬0<=k:=g;rw[zaY oM]at k4;exact z0 k4
def zh7{s:Sc}{i:Int}(h:(kg s i).2=0):inS s i:=vX.2 λk=>by rw[h]at k;exact absurd k dC
def zB1(s:Sc)(i:Int)(ht:jE s):CG0 27 [.agg (scE s),i64 i] [] (.sl zk (zal s i)) []:=by
 refine zc Tryz.func27 ?_;refine zb.t (zjc s i ht) ?_;have nil:zal s i=[]->LE (.val (.slice none 0 0)) (.sl zk (zal s i)):=λh=>by rw[h];exact zD
 refine⟨λh=>nil ?_,λh1=>?_⟩
 ·unfold zal uM;rw[Xe (show(kg s i).2≠0 from h)];split <;> rfl
 have h1:(kg s i).2=0:=Xa.1 h1;have hin:=zh7 h1;obtain⟨n,hn⟩:=uN hin;have hi:=(Xd.1 hn).1;have hi0:=hin.2;have en:=zcY hin hn;have get:∀x,s.ns[i.toNat]?=some x->x=n:=λx hx=>Xm (hx.symm.trans hn)
 refine Ob.o ?_;intro x hx;rw[get x hx];refine⟨λh=>nil ?_,λh2=>?_⟩
 ·exact Xe (.inl (by rw[en];exact h))
 have h2:n.k=2:=Xa.1 h2;refine Ob.o ?_;intro x hx;rw[get x hx];intro _;refine⟨λh=>nil ?_,λh3=>?_⟩
 ·have h:(n.fill.length:Int)=0:=h;exact Xe (.inr (by rw[en];omega))
 have h3:¬(n.fill.length:Int)=0:=h3;refine Dr.k<|Ob.o ?_;intro x hx;rw[get x hx];refine zb.t (zoG n.path (kg s i).1 32 ((zan s i).up dC)) ?_
 have e:zal s i=(yn n.path (kg s i).1 32).1:=by
  unfold zal uM;rw[en,Xc (λk=>k.elim (λk=>k h2) λk=>h3 oM),Xc (λk=>k h1)]
 rw[e];exact .refl
def zB2(s:Sc)(i:Int)(ht:jE s):CG0 28 [.agg (scE s),i64 i] [] (.sl zk (zaH s i)) []:=by
 refine zc Tryz.func28 ?_;refine zb.t (zjc s i ht) ?_;have nil:zaH s i=[]->LE (.val (.slice none 0 0)) (.sl zk (zaH s i)):=λh=>by rw[h];exact zD
 refine⟨λh=>nil ?_,λh1=>?_⟩
 ·unfold zaH;rw[Xe (show(kg s i).2≠0 from h)];split <;> rfl
 have h1:(kg s i).2=0:=Xa.1 h1;have hin:=zh7 h1;obtain⟨n,hn⟩:=uN hin;have hi:=(Xd.1 hn).1;have hi0:=hin.2;have en:=zcY hin hn;have get:∀x,s.ns[i.toNat]?=some x->x=n:=λx hx=>Xm (hx.symm.trans hn)
 refine Ob.o ?_;intro x hx;rw[get x hx];refine⟨λh=>nil ?_,λh2=>?_⟩
 ·exact Xe (.inl (by rw[en];exact h))
 have h2:n.k=2:=Xa.1 h2;refine Ob.o ?_;intro x hx;rw[get x hx];intro _;refine⟨λh=>nil ?_,λh3=>?_⟩
 ·have h:(n.strk.length:Int)=0:=h;exact Xe (.inr (by rw[en];omega))
 have h3:¬(n.strk.length:Int)=0:=h3;refine Dr.k<|Ob.o ?_;intro x hx;rw[get x hx];refine Ob.o ?_;intro x hx;rw[get x hx];refine zb.t (zv6 n.path n.pen (kg s i).1 32 ((zan s i).up dC)) ?_
 have e:zaH s i=(zay n.path n.pen (kg s i).1 32).1:=by
  unfold zaH;rw[en,Xc (λk=>k.elim (λk=>k h2) λk=>h3 oM),Xc (λk=>k h1)]
 rw[e];exact .refl
def zED(s:Sc)(i:Int)(ht:jE s):CG0 29 [.agg (scE s),i64 i] [] (.sl zk (zeV s i)) []:=by
 refine zc Tryz.func29 ?_;refine zb.t (zjc s i ht) ?_;have nil:zeV s i=[]->LE (.val (.slice none 0 0)) (.sl zk (zeV s i)):=λh=>by rw[h];exact zD
 refine⟨λh=>nil ?_,λh1=>?_⟩
 ·unfold zeV uM;rw[Xe (show(kg s i).2≠0 from h)];split <;> rfl
 have h1:(kg s i).2=0:=Xa.1 h1;have hin:=zh7 h1;obtain⟨n,hn⟩:=uN hin;have hi:=(Xd.1 hn).1;have hi0:=hin.2;have en:=zcY hin hn;have get:∀x,s.ns[i.toNat]?=some x->x=n:=λx hx=>Xm (hx.symm.trans hn)
 refine Ob.o ?_;intro x hx;rw[get x hx];refine⟨λh=>nil ?_,λh2=>?_⟩
 ·exact Xe (by rw[en];exact h)
 have h2:n.k=3:=Xa.1 h2;refine Dr.k<|Ob.o ?_;intro x hx;rw[get x hx];refine Ob.o ?_;intro x hx;rw[get x hx];refine zb.t (ziq 0 0 n.im.w n.im.h)<|zb.t (zoG (zaF 0 0 n.im.w n.im.h) (kg s i).1 32 ((zan s i).up dC)) ?_
 have e:zeV s i=(yn (zaF 0 0 n.im.w n.im.h) (kg s i).1 32).1:=by
  unfold zeV uM;rw[en,Xc (λk=>k h2),Xc (λk=>k h1)]
 rw[e];exact .refl
end Go.Gs
