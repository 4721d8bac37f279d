/- A joint, both texts. -/
import Derived.Test.YtplllpkdmehklaaGreatDoorMA
import Derived.Test.YtplllpkdmehklaaGreatDoorMBC
import Derived.Test.YtplllpkdmehklaaGreatDoorMBE
import Derived.Test.YtplllpkdmehklaaGreatDoorMAP
set_option maxRecDepth 100000
set_option maxHeartbeats 8000000
set_option linter.all false
namespace Go.Gs
open Go.Proofs
theorem zr8{w:Int}{p:Pt}(hw:kB w)(h:zfI w p):zn p:=by unfold kB at hw;unfold zfI at h;unfold zn;omega
theorem zzh(n m:Pt)(w lim:Int):S50 (zca n m w lim).1.x/\S50 (zca n m w lim).1.y:=by
 unfold zca
 split
 ·exact ⟨dC,dC⟩
 ·rename_i h;obtain ⟨hn,hm,hw,_⟩:=Decidable.not_not.1 h;have hs:=zkZ hn hm;dsimp only
  split
  ·exact ⟨dC,dC⟩
  ·generalize zQ n m=s at*;have t:=zfE hs.1 hw;have t':=zfE hs.2 hw;exact ⟨uC (M:=1125899906842624) oM,uC (M:=1125899906842624) oM⟩
theorem zzi{a v b:Pt}{p:Pen}(h:qa p/\zn a/\zn v/\zn b/\¬v=a/\¬v=b):vd a v b p=
  if p.j=3 then qV (zcx v p.w) else if (jp a v b p.w).2.2=false then []
  else qV (qO (if p.j=1/\(zca (jp a v b p.w).1 (jp a v b p.w).2.1 p.w p.m).2=true then [v,zQ v (jp a v b p.w).1,zQ v (zca (jp a v b p.w).1 (jp a v b p.w).2.1 p.w p.m).1,zQ v (jp a v b p.w).2.1]
   else [v,zQ v (jp a v b p.w).1,zQ v (jp a v b p.w).2.1])):=by
 unfold vd;rw [qo h]
theorem zBJ(a v b:Pt)(p:Pen):zd Tryz.prog 295 [.agg (ptE a),.agg (ptE v),.agg (ptE b),.agg (ue p)] [] (.sl zu (vd a v b p)) []:=by
 refine zc tok mix Tryz.func295 rfl rfl rfl ?_
 have bad:¬(qa p/\zn a/\zn v/\zn b/\¬v=a/\¬v=b)->LE (.val (.slice none 0 0)) (.sl zu (vd a v b p)):=fun h=>by
  unfold vd;rw [if_pos h];exact zC
 refine zb.t (zd2 p) ?_;refine Br.mk (fun a1=>bad (fun h=>a1 h.1)) (fun a1=>?_);refine zb.t (kS a) ?_;refine Br.mk (fun a2=>bad (fun h=>a2 h.2.1)) (fun a2=>?_);refine zb.t (kS v) ?_;refine Br.mk (fun a3=>bad (fun h=>a3 h.2.2.1)) (fun a3=>?_);refine zb.t (kS b) ?_;refine Br.mk (fun a4=>bad (fun h=>a4 h.2.2.2.1)) (fun a4=>?_);refine Br.mk (fun a5=>bad (fun h=>h.2.2.2.2.1 (qJ.1 a5))) (fun a5=>?_);refine Br.mk (fun a6=>bad (fun h=>h.2.2.2.2.2 (qJ.1 a6))) (fun a6=>?_)
 have hok:qa p/\zn a/\zn v/\zn b/\¬v=a/\¬v=b:=
  ⟨Decidable.not_not.1 a1,Decidable.not_not.1 a2,Decidable.not_not.1 a3,Decidable.not_not.1 a4,fun e=>a5 (qJ.2 e),fun e=>a6 (qJ.2 e)⟩
 have hv:=hok.2.2.1;have hw:=hok.1.1;have e:=zzi hok;refine Br.mk (fun j1=>?_) (fun j1=>?_)
 ·have j1:p.j=3:=j1;refine zb.t (zqr v p.w) ?_;refine zb.t (zmF (zcx v p.w)) ?_;exact qy (e.trans (if_pos j1)).symm
 have j1:¬p.j=3:=j1;rw [if_neg j1] at e;refine zb.t (zy8 a v b p.w) ?_;refine Br.mk (fun k=>?_) (fun k=>?_)
 ·have k:¬(jp a v b p.w).2.2=true:=k;rw [if_pos (by simpa using k)] at e;rw [e];exact zC
 have k:(jp a v b p.w).2.2=true:=Decidable.not_not.1 k;rw [if_neg (by rw [k];decide)] at e;have oh:=zqA (a:=a) (v:=v) (b:=b) hw;have o1:=zr8 hw oh.1;have o2:=zr8 hw oh.2;generalize (jp a v b p.w).1=n at*;generalize (jp a v b p.w).2.1=m at*;refine Dr.d ?_;refine zb.t (zd4 v n hv.p45.s o1.p45.s) ?_;refine ⟨Pt,ptE,[v,zQ v n],rfl,Ob.o0 ?_⟩;refine Ob.mk (by kernel_rfl) ?_
 have tail:∀(q:List Pt),(¬(p.j=1/\(zca n m p.w p.m).2=true))->q=[v,zQ v n,zQ v m]->LE (.sl zu (qV (qO q))) (.sl zu (vd a v b p)):=fun q h hq=>by
  rw [e,if_neg h,hq];exact .refl
 refine Br.mk (fun j2=>?_) (fun j2=>?_)
 ·have j2:p.j=1:=j2;refine zb.t (p_tip n m p.w p.m) ?_;have ht:=zzh n m p.w p.m;refine Br.mk (fun s1=>?_) (fun s1=>?_)
  ·refine zb.t (zd4 v (zca n m p.w p.m).1 hv.p45.s ht) ?_;refine ⟨Pt,ptE,[zQ v (zca n m p.w p.m).1],rfl,Ob.o0 ?_⟩;refine ⟨[zQ v (zca n m p.w p.m).1],rfl,Ob.o12 ?_⟩;refine zb.t (zd4 v m hv.p45.s o2.p45.s) ?_;refine ⟨Pt,ptE,[zQ v m],rfl,Ob.o0 ?_⟩;refine ⟨[zQ v m],rfl,Ob.o16 ?_⟩;refine zb.see 11 _ (zaM [v,zQ v n,zQ v (zca n m p.w p.m).1,zQ v m] (by show ((4:Nat):Int)<=_;decide)) rfl rfl rfl ?_;refine zb.t (zmF (qO [v,zQ v n,zQ v (zca n m p.w p.m).1,zQ v m])) ?_;rw [e,if_pos ⟨j2,s1⟩];exact .refl
  ·refine zb.t (zd4 v m hv.p45.s o2.p45.s) ?_;refine ⟨Pt,ptE,[zQ v m],rfl,Ob.o0 ?_⟩;refine ⟨[zQ v m],rfl,Ob.o12 ?_⟩;refine zb.see 9 _ (zaM [v,zQ v n,zQ v m] (by show ((3:Nat):Int)<=_;decide)) rfl rfl rfl ?_;refine zb.t (zmF (qO [v,zQ v n,zQ v m])) ?_;exact tail _ (fun h=>s1 h.2) rfl
 ·have j2:¬p.j=1:=j2;refine zb.t (zd4 v m hv.p45.s o2.p45.s) ?_;refine ⟨Pt,ptE,[zQ v m],rfl,Ob.o0 ?_⟩;refine ⟨[zQ v m],rfl,Ob.o12 ?_⟩;refine zb.see 8 _ (zaM [v,zQ v n,zQ v m] (by show ((3:Nat):Int)<=_;decide)) rfl rfl rfl ?_;refine zb.t (zmF (qO [v,zQ v n,zQ v m])) ?_;exact tail _ (fun h=>j2 h.1) rfl
theorem zqB{l:List Pl}{i:Nat}{x:Pl}(h:l[i]? =some x):yM (l.take (i+1))=yM (l.take i)++if 3<=x.pts.length then [x.pts] else []:=by
 unfold yM;rw [List.take_add_one,h]
 by_cases c:3<=x.pts.length
 ·simp [c]
 ·simp [c]
theorem zoH(l:List Pl):(yM l).length<=l.length:=by
 unfold yM;rw [List.length_map];exact List.length_filter_le _ _
theorem zwL(l:List Pl)(hl:l.length<=4096)(hp:∀q∈l,q.pts.length<=4096):zd Tryz.prog 126 [.sl plE l] [] (.sl zu (yM l)) []:=by
 refine zc tok mix Tryz.func126 rfl rfl rfl ?_;intro hl1;refine ⟨Nat,fun i=>⟨[(3,.own 0),(6,.sl plE l),(7,i64 (l.length:Int)),(8,i64 (i:Int))],[(0,.arr 87 zu 1 (yM (l.take i)))],1,24,0⟩,fun i=>i<=l.length,fun i=>l.length - i,0,?_,?_,?_⟩
 ·exact Nat.zero_le _
 ·exact zf [(0,none)]
 rintro i hi
 have hlen:=zoH (l.take i);rw [List.length_take] at hlen;refine Br.mk (fun g=>?_) (fun g=>?_)
 ·have g:(i:Int) < l.length:=g;refine Ob.o ?_;intro x hx;have hx:l[i]? =some x:=hx;intro hl3;have e:=zqB hx;refine Br.mk (fun c=>?_) (fun c=>?_)
  ·have c:(3:Int)<=x.pts.length:=c;refine zb.t ((zmE x.pts (hp x (List.mem_of_getElem? hx))).plain rfl) ?_;refine ⟨List Pt,zu,[x.pts],rfl,Ob.o0 ?_⟩;refine ⟨[x.pts],rfl,Ob.mk ⟨(by show _*(24:Int)<=_;simp only [List.length_cons,List.length_nil];omega),(by simp only [List.length_cons,List.length_nil];omega),dC,fun _ _=>rfl⟩ ?_⟩;refine Ar.o ?_;refine ⟨i+1,oM,zY [(0,some 3)] ⟨congrArg (fun q=>some (Mem.arr 87 zu 1 q)) ?_,trivial⟩,by dsimp only;omega⟩;rw [e,if_pos oM]
  ·have c:¬(3:Int)<=x.pts.length:=c;refine Ar.o ?_;refine ⟨i+1,oM,zY [(0,some 0)] ⟨congrArg (fun q=>some (Mem.arr 87 zu 1 q)) ?_,trivial⟩,by dsimp only;omega⟩;rw [e,if_neg oM,List.append_nil]
 ·have g:¬(i:Int) < l.length:=g;exact qy (by rw [List.take_of_length_le oM])
theorem zd6{a b c:Int}(ha: -1048576<=a/\a<=1048576)(hb: -1048576<=b/\b<=1048576)(hc: -1048576<=c/\c<=1048576):
  (-4194304<=a - 2*b+c/\a - 2*b+c<=4194304)/\0<=(a - 2*b+c)*(a - 2*b+c)/\(a - 2*b+c)*(a - 2*b+c)<=17592186044416:=by
 have h: -4194304<=a - 2*b+c/\a - 2*b+c<=4194304:=oM;have h1:=jy (A:=4194304) (B:=4194304) h h;have h2:=yA (a - 2*b+c);omega
theorem zeP{a b c:Pt}(ha:zn a)(hb:zn b)(hc:zn c):0<=vN a b c/\vN a b c<=35184372088832:=by
 have h1:=zd6 ha.1 hb.1 hc.1;have h2:=zd6 ha.2 hb.2 hc.2;unfold vN;omega
theorem zjf(a b c:Pt)(ha:zn a)(hb:zn b)(hc:zn c):zd Tryz.prog 305 [.agg (ptE a),.agg (ptE b),.agg (ptE c)] [] (i64 (vN a b c)) []:=by
 have h1:=zd6 ha.1 hb.1 hc.1;have h2:=zd6 ha.2 hb.2 hc.2;unfold zn at ha hb hc;refine zc tok mix Tryz.func305 rfl rfl rfl ?_;refine Dr.k ?_;(iterate 9 refine Ar.o ?_);exact .refl
theorem zqC{need tol:Int}{i:Nat}(h:i<=64):vp need tol (65 - i) i=if enough need tol i then ((i:Int),0) else vp need tol (65 - (i+1)) (i+1):=by
 rw [show 65 - i=(64 - i)+1 by omega,vp,show 65 - (i+1)=64 - i by omega]
theorem zqD{i:Nat}{tol:Int}(hi:i<=64)(ht:1<=tol/\tol<=256):
  (-65536<=16*(i:Int)*i/\16*(i:Int)*i<=65536)/\(-4194304<=16*(i:Int)*i*i/\16*(i:Int)*i*i<=4194304)/\
  (-268435456<=16*(i:Int)*i*i*i/\16*(i:Int)*i*i*i<=268435456)/\(-68719476736<=16*(i:Int)*i*i*i*tol/\16*(i:Int)*i*i*i*tol<=68719476736)/\
  (-17592186044416<=16*(i:Int)*i*i*i*tol*tol/\16*(i:Int)*i*i*i*tol*tol<=17592186044416):=by
 have h2:=jy (A:=1024) (B:=64) (a:=16*(i:Int)) (b:=i) oM oM;have h3:=jy (A:=65536) (B:=64) (a:=16*(i:Int)*i) (b:=i) oM oM;have h4:=jy (A:=4194304) (B:=64) (a:=16*(i:Int)*i*i) (b:=i) oM oM;have h5:=jy (A:=268435456) (B:=256) (a:=16*(i:Int)*i*i*i) (b:=tol) oM oM;have h6:=jy (A:=68719476736) (B:=256) (a:=16*(i:Int)*i*i*i*tol) (b:=tol) oM oM;omega
def zr9(c:Int×Int):SV:=.tup [i64 c.1,i64 c.2]
theorem zfK{c:Int×Int}{a b:Int}(h:c=(a,b)):LE (.tup [i64 a,i64 b]) (zr9 c):=by subst h;exact .refl
theorem zoI(need tol:Int)(l:List Pt)(hl:l.length<=4):zd Tryz.prog 304 [i64 need,i64 tol,.sl ptE l] [] (zr9 (jd need tol l)) []:=by
 refine zc tok mix Tryz.func304 rfl rfl rfl ?_;have bad:¬(1<=tol/\tol<=256)->jd need tol l=(0,2):=fun h=>by unfold jd;rw [if_pos h]
 refine Br.mk (fun a1=>zfK (bad (fun h=>by have a1:tol < 1:=a1;omega))) (fun a1=>?_);refine Br.mk (fun a2=>zfK (bad (fun h=>by have a2:256 < tol:=a2;omega))) (fun a2=>?_);have ht:1<=tol/\tol<=256:=⟨by have a1:¬tol < 1:=a1;omega,by have a2:¬256 < tol:=a2;omega⟩;intro hl2;refine ⟨Nat,fun i=>⟨[(0,i64 need),(1,i64 tol),(17,.sl ptE l),(18,i64 (l.length:Int)),(19,i64 (i:Int))],[],0,46,0⟩,fun i=>i<=l.length/\∀p∈l.take i,zn p,fun i=>l.length - i,0,?_,?_,?_⟩
 ·exact ⟨Nat.zero_le _,fun p hp=>by cases hp⟩
 ·exact zf []
 rintro i ⟨h1,h2⟩
 refine Br.mk (fun g=>?_) (fun g=>?_)
 ·have g:(i:Int) < l.length:=g;refine Ob.o ?_;intro x hx;have hx:l[i]? =some x:=hx;refine zb.t (kS x) ?_;refine Br.mk (fun b=>?_) (fun b=>?_)
  ·refine zfK ?_;unfold jd;rw [qo ht,if_pos (fun k=>b (k x (List.mem_of_getElem? hx)))]
  ·have b:=Decidable.not_not.1 b;refine Ar.o ?_;refine ⟨i+1,⟨oM,fun p hp=>?_⟩,zf [],by dsimp only;omega⟩;rw [List.take_add_one,hx] at hp
   rcases List.mem_append.1 hp with hp | hp
   ·exact h2 p hp
   ·simp at hp;rw [hp];exact b
 have g:¬(i:Int) < l.length:=g;have hv:∀p∈l,zn p:=by rw [List.take_of_length_le oM] at h2;exact h2
 have e:jd need tol l=vp need tol 64 1:=by unfold jd;rw [qo ht,qo hv]
 refine ⟨Nat,fun i=>⟨[(0,i64 need),(1,i64 tol),(10,i64 (i:Int))],[],0,46,0⟩,fun i=>1<=i/\i<=65/\vp need tol (65 - i) i=vp need tol 64 1,fun i=>65 - i,1,?_,?_,?_⟩
 ·exact ⟨dC,dC,rfl⟩
 ·exact zf []
 rintro i ⟨h3,h4,h5⟩
 refine Br.mk (fun g=>?_) (fun g=>?_)
 ·have g:(i:Int)<=64:=g;have ch:=zqD (i:=i) oM ht;have st:=zqC (need:=need) (tol:=tol) (i:=i) oM;rw [h5] at st;(iterate 6 refine Ar.o ?_);refine Br.mk (fun k=>?_) (fun k=>?_)
  ·have k:enough need tol i:=k;exact zfK (by rw [e,st,if_pos k])
  ·have k:¬enough need tol i:=k;refine Ar.o ?_;refine ⟨i+1,⟨oM,oM,by rw [st,if_neg k]⟩,zf [],by dsimp only;omega⟩
 ·have g:¬(i:Int)<=64:=g;have h6:i=65:=oM;subst h6;exact zfK (by rw [e,← h5];rfl)
theorem ztS(a b c:Pt)(tol:Int)(ha:zn a)(hb:zn b)(hc:zn c):zd Tryz.prog 273 [.agg (ptE a++ptE b++ptE c),i64 tol] [] (zr9 (jE a b c tol)) []:=by
 refine zc tok mix Tryz.func273 rfl rfl rfl ?_;refine zkb.data ?_;refine Dr.k ?_;have r1:=zeP ha hb hc;refine zb.t (zjf a b c ha hb hc) ?_;refine ⟨Pt,ptE,[a,b,c],rfl,Ob.o13 ?_⟩;refine zb.t (zoI (vN a b c) tol [a,b,c] (by show 3<=4;decide)) ?_;exact .refl
theorem ztT(a b c d:Pt)(tol:Int)(ha:zn a)(hb:zn b)(hc:zn c)(hd:zn d):zd Tryz.prog 278 [.agg (ptE a++ptE b++ptE c++ptE d),i64 tol] [] (zr9 (jF a b c d tol)) []:=by
 refine zc tok mix Tryz.func278 rfl rfl rfl ?_;refine zkb.data ?_;refine Dr.k ?_;have r1:=zeP ha hb hc;refine zb.t (zjf a b c ha hb hc) ?_;have r2:=zeP hb hc hd;refine zb.t (zjf b c d hb hc hd) ?_;refine Ar.fit (by show -9223372036854775808<=9*max (vN a b c) (vN b c d)/\9*max (vN a b c) (vN b c d)<=9223372036854775807;omega) ?_;refine ⟨Pt,ptE,[a,b,c,d],rfl,Ob.o13 ?_⟩;refine zb.t (zoI (9*max (vN a b c) (vN b c d)) tol [a,b,c,d] (by show 4<=4;decide)) ?_;exact .refl
theorem zwM(a b:Int)(ha: -8796093022208<=a/\a<=8796093022208)(hb:0 < b/\b<=1048576):zd Tryz.prog 309 [i64 a,i64 b] [] (i64 (zcw a b)) []:=by
 have td:=tdm (m:=2*a+b) (n:=2*b) oM;have tr:=zp5 (m:=2*a+b) (n:=2*b) oM ⟨oM,oM⟩;refine zc tok mix Tryz.func309 rfl rfl rfl ?_;(iterate 3 refine Ar.o ?_);have e:zcw a b=(2*a+b) / (2*b):=rfl;have tr2:=tr.2 oM;have tr1:=tr.1;clear tr;refine Dv.any (by omega:2*b≠0) ?_;refine Ar.fit tr1 ?_;refine Dv.any (by omega:2*b≠0) ?_;refine Br.mk (fun k=>?_) (fun k=>?_)
 ·have k:(2*a+b).tmod (2*b) < 0:=k;refine Ar.fit (by unfold R64 at tr1;omega) ?_;exact zj (by rw [e];omega)
 ·have k:¬(2*a+b).tmod (2*b) < 0:=k;exact zj (by rw [e];omega)
theorem zwN(l:List Pt)(i n:Int)(hl:l.length<=4):zd Tryz.prog 307 [.sl ptE l,i64 i,i64 n] [] (pr (zty l i n)) []:=by
 refine zc tok mix Tryz.func307 rfl rfl rfl ?_;intro hl1;refine ⟨Nat,fun k=>⟨[(1,i64 i),(2,i64 n),(9,.sl ptE l),(10,i64 (l.length:Int)),(11,i64 (k:Int))],[],0,34,0⟩,fun k=>k<=l.length/\∀p∈l.take k,zn p,fun k=>l.length - k,0,?_,?_,?_⟩
 ·exact ⟨Nat.zero_le _,fun p hp=>by cases hp⟩
 ·exact zf []
 rintro k ⟨h1,h2⟩
 refine Br.mk (fun g=>?_) (fun g=>?_)
 ·have g:(k:Int) < l.length:=g;refine Ob.o ?_;intro x hx;have hx:l[k]? =some x:=hx;refine zb.t (kS x) ?_;refine Br.mk (fun b=>ze fun q=>b (q.1 x (List.mem_of_getElem? hx))) (fun b=>?_);have b:=Decidable.not_not.1 b;refine Ar.o ?_;refine ⟨k+1,⟨oM,fun p hp=>?_⟩,zf [],by dsimp only;omega⟩;rw [List.take_add_one,hx] at hp
  rcases List.mem_append.1 hp with hp | hp
  ·exact h2 p hp
  ·simp at hp;rw [hp];exact b
 have g:¬(k:Int) < l.length:=g;have hv:∀p∈l,zn p:=by rw [List.take_of_length_le oM] at h2;exact h2
 refine Br.mk (fun h1=>?_) (fun h1=>ze (fun k=>h1 k.2.1));refine Br.mk (fun h2=>?_) (fun h2=>ze (fun k=>h2 k.2.2.1));refine Br.mk (fun h3=>?_) (fun h3=>ze (fun k=>h3 k.2.2.2.1));exact zF ⟨fun h4=>⟨hv,h1,h2,h3,h4⟩,fun h=>h.2.2.2.2⟩
theorem zzj{k i n x y z:Int}(hk:0<=k/\k<=64)(hi:0<=i/\i<=64)(hn:1<=n/\n<=64)(hx: -1048576<=x/\x<=1048576)(hy: -1048576<=y/\y<=1048576)(hz: -1048576<=z/\z<=1048576):
  (-4096<=k*k/\k*k<=4096)/\(-4294967296<=k*k*x/\k*k*x<=4294967296)/\(-8192<=2*i*k/\2*i*k<=8192)/\(-8589934592<=2*i*k*y/\2*i*k*y<=8589934592)/\
  (-4096<=i*i/\i*i<=4096)/\(-4294967296<=i*i*z/\i*i*z<=4294967296)/\(0 < n*n/\n*n<=4096):=by
 have h1:=jy (A:=64) (B:=64) (a:=k) (b:=k) oM oM;have h2:=jy (A:=4096) (B:=1048576) (a:=k*k) (b:=x) oM oM;have h3:=jy (A:=128) (B:=64) (a:=2*i) (b:=k) oM oM;have h4:=jy (A:=8192) (B:=1048576) (a:=2*i*k) (b:=y) oM oM;have h5:=jy (A:=64) (B:=64) (a:=i) (b:=i) oM oM;have h6:=jy (A:=4096) (B:=1048576) (a:=i*i) (b:=z) oM oM;have h7:=jy (A:=64) (B:=64) (a:=n) (b:=n) oM oM;have h8:=Int.mul_pos (show 0 < n by omega) (show 0 < n by omega);omega
theorem zzk{k i n x y z u:Int}(hk:0<=k/\k<=64)(hi:0<=i/\i<=64)(hn:1<=n/\n<=64)(hx: -1048576<=x/\x<=1048576)(hy: -1048576<=y/\y<=1048576)(hz: -1048576<=z/\z<=1048576)(hu: -1048576<=u/\u<=1048576):
  ((-4096<=k*k/\k*k<=4096)/\(-262144<=k*k*k/\k*k*k<=262144)/\(-274877906944<=k*k*k*x/\k*k*k*x<=274877906944))/\
  ((-12288<=3*i*k/\3*i*k<=12288)/\(-786432<=3*i*k*k/\3*i*k*k<=786432)/\(-824633720832<=3*i*k*k*y/\3*i*k*k*y<=824633720832))/\
  ((-12288<=3*i*i/\3*i*i<=12288)/\(-786432<=3*i*i*k/\3*i*i*k<=786432)/\(-824633720832<=3*i*i*k*z/\3*i*i*k*z<=824633720832))/\
  ((-4096<=i*i/\i*i<=4096)/\(-262144<=i*i*i/\i*i*i<=262144)/\(-274877906944<=i*i*i*u/\i*i*i*u<=274877906944))/\((0 < n*n/\n*n<=4096)/\(0 < n*n*n/\n*n*n<=262144)):=by
 have h1:=jy (A:=64) (B:=64) (a:=k) (b:=k) oM oM;have h2:=jy (A:=4096) (B:=64) (a:=k*k) (b:=k) oM oM;have h3:=jy (A:=262144) (B:=1048576) (a:=k*k*k) (b:=x) oM oM;have h4:=jy (A:=192) (B:=64) (a:=3*i) (b:=k) oM oM;have h5:=jy (A:=12288) (B:=64) (a:=3*i*k) (b:=k) oM oM;have h6:=jy (A:=786432) (B:=1048576) (a:=3*i*k*k) (b:=y) oM oM;have h7:=jy (A:=192) (B:=64) (a:=3*i) (b:=i) oM oM;have h8:=jy (A:=12288) (B:=64) (a:=3*i*i) (b:=k) oM oM
 have h9:=jy (A:=786432) (B:=1048576) (a:=3*i*i*k) (b:=z) oM oM;have i1:=jy (A:=64) (B:=64) (a:=i) (b:=i) oM oM;have i2:=jy (A:=4096) (B:=64) (a:=i*i) (b:=i) oM oM;have i3:=jy (A:=262144) (B:=1048576) (a:=i*i*i) (b:=u) oM oM;have n1:=jy (A:=64) (B:=64) (a:=n) (b:=n) oM oM;have n2:=jy (A:=4096) (B:=64) (a:=n*n) (b:=n) oM oM;have n3:=Int.mul_pos (show 0 < n by omega) (show 0 < n by omega);have n4:=Int.mul_pos n3 (show 0 < n by omega);omega
theorem zk5(x y z k i n:Int)(hk:0<=k/\k<=64)(hi:0<=i/\i<=64)(hn:1<=n/\n<=64)(hx: -1048576<=x/\x<=1048576)(hy: -1048576<=y/\y<=1048576)(hz: -1048576<=z/\z<=1048576):
  zd Tryz.prog 308 [i64 x,i64 y,i64 z,.ptr [i64 k],.ptr [i64 i],.ptr [i64 n]] [] (i64 (zcw (k*k*x+2*i*k*y+i*i*z) (n*n))) []:=by
 have t:=zzj hk hi hn hx hy hz;refine zc tok mix Tryz.func308 rfl rfl rfl ?_;(iterate 10 refine Ar.o ?_);refine zb.t (zwM (k*k*x+2*i*k*y+i*i*z) (n*n) oM oM) ?_;exact .refl
theorem ztU{a b c:Pt}{i n:Int}(h:zty [a,b,c] i n):uf a b c i n=⟨q1 i n a.x b.x c.x,q1 i n a.y b.y c.y⟩:=by
 unfold uf;rw [qo h]
theorem zwO(a b c:Pt)(i n:Int):zd Tryz.prog 277 [.agg (ptE a++ptE b++ptE c),i64 i,i64 n] [] (.agg (ptE (uf a b c i n))) []:=by
 refine zc tok mix Tryz.func277 rfl rfl rfl ?_;refine zkb.data ?_;refine Dr.k ?_;refine ⟨Pt,ptE,[a,b,c],rfl,Ob.o13 ?_⟩;refine zb.t (zwN [a,b,c] i n (by show 3<=4;decide)) ?_;refine Br.mk (fun h=>?_) (fun h=>?_)
 ·refine zaD (show SV.agg (ptE zp)=_ from ?_);unfold uf;rw [if_pos h]
 have h:=Decidable.not_not.1 h;obtain ⟨hv,n1,n2,i1,i2⟩:=h;have ha:=hv a (by simp);have hb:=hv b (by simp);have hc:=hv c (by simp);refine Ar.o ?_;refine Dr.k ?_;refine zb.t (zk5 a.x b.x c.x (n - i) i n oM oM oM ha.1 hb.1 hc.1) ?_;refine zb.t (zk5 a.y b.y c.y (n - i) i n oM oM oM ha.2 hb.2 hc.2) ?_;exact zaD (congrArg (fun p=>SV.agg (ptE p)) (ztU ⟨hv,n1,n2,i1,i2⟩).symm)
theorem zk6(x y z u k i n:Int)(hk:0<=k/\k<=64)(hi:0<=i/\i<=64)(hn:1<=n/\n<=64)(hx: -1048576<=x/\x<=1048576)(hy: -1048576<=y/\y<=1048576)(hz: -1048576<=z/\z<=1048576)(hu: -1048576<=u/\u<=1048576):
  zd Tryz.prog 310 [i64 x,i64 y,i64 z,i64 u,.ptr [i64 k],.ptr [i64 i],.ptr [i64 n]] [] (i64 (zcw (k*k*k*x+3*i*k*k*y+3*i*i*k*z+i*i*i*u) (n*n*n))) []:=by
 have t:=zzk hk hi hn hx hy hz hu;refine zc tok mix Tryz.func310 rfl rfl rfl ?_;(iterate 19 refine Ar.o ?_);refine zb.t (zwM (k*k*k*x+3*i*k*k*y+3*i*i*k*z+i*i*i*u) (n*n*n) oM oM) ?_;exact .refl
theorem ztV{a b c d:Pt}{i n:Int}(h:zty [a,b,c,d] i n):ug a b c d i n=⟨c1 i n a.x b.x c.x d.x,c1 i n a.y b.y c.y d.y⟩:=by
 unfold ug;rw [qo h]
theorem zwP(a b c d:Pt)(i n:Int):zd Tryz.prog 280 [.agg (ptE a++ptE b++ptE c++ptE d),i64 i,i64 n] [] (.agg (ptE (ug a b c d i n))) []:=by
 refine zc tok mix Tryz.func280 rfl rfl rfl ?_;refine zkb.data ?_;refine Dr.k ?_;refine ⟨Pt,ptE,[a,b,c,d],rfl,Ob.o13 ?_⟩;refine zb.t (zwN [a,b,c,d] i n (by show 4<=4;decide)) ?_;refine Br.mk (fun h=>?_) (fun h=>?_)
 ·refine zaD (show SV.agg (ptE zp)=_ from ?_);unfold ug;rw [if_pos h]
 have h:=Decidable.not_not.1 h;obtain ⟨hv,n1,n2,i1,i2⟩:=h;have ha:=hv a (by simp);have hb:=hv b (by simp);have hc:=hv c (by simp);have hd:=hv d (by simp);refine Ar.o ?_;refine Dr.k ?_;refine zb.t (zk6 a.x b.x c.x d.x (n - i) i n oM oM oM ha.1 hb.1 hc.1 hd.1) ?_;refine zb.t (zk6 a.y b.y c.y d.y (n - i) i n oM oM oM ha.2 hb.2 hc.2 hd.2) ?_;exact zaD (congrArg (fun p=>SV.agg (ptE p)) (ztV ⟨hv,n1,n2,i1,i2⟩).symm)
def zfL(prev:SV->SV)(lm:Nat->Option Mem):SV->SV
 |.loc k off=>(match lm k with
  | some (.box _ cs)=>.dptr ((cs.map prev).drop off)
  | _=>.junk)
 |.own k=>(match lm k with
  | some (.arr _ enc _ xs)=>.sl enc xs
  | _=>.junk)
 | .fn f cs=>.dfn f (frzs prev lm cs)
 | .agg cs=>.agg (frzs prev lm cs)
 | .ifc t s=>.ifc t (zfL prev lm s)
 | .val v=>.val v
 | .pr p i=>.pr p i
 | .sl enc xs=>.sl enc xs
 | .dptr cs=>.dptr cs
 | .dfn f cs=>.dfn f cs
 | .bm f cs=>.bm f cs
 | .op v=>.op v
 | .nils=>.nils
 | .anyb=>.anyb
 | .full enc xs=>.full enc xs
 | _=>.junk
 where
 frzs (prev:SV->SV) (lm:Nat->Option Mem):List SV->List SV
  | []=>[]
  | c::cs=>zfL prev lm c::frzs prev lm cs
def frz(lm:Nat->Option Mem):Nat->SV->SV
 | 0=>zfL (fun _=>.junk) lm
 | n+1=>zfL (frz lm n) lm
def zhy(lm:Nat->Option Mem)(n:Nat)(s:SV):SV:=
 match s with
 | .tup cs=>.tup (cs.map (frz lm n))
 | s=>frz lm n s
theorem zjg(prev:SV->SV)(lm:Nat->Option Mem):∀cs,zfL.frzs prev lm cs=cs.map (zfL prev lm)
 | []=>rfl
 | c::cs=>by rw [zfL.frzs,zjg prev lm cs];rfl
section
variable {Keep:Nat->Prop} {M:List (Nat×Mem)} {ρ:zi} {w:World} {lm:Nat->Option Mem}
theorem zwQ (hlm:∀k m,lm k=some m->(k,m)∈M) (hm:zJ Keep M ρ w) {prev:SV->SV}
  (hp:∀{s:SV} {v:Value},G (fun b=>Keep b∨Own M ρ b) (Own M ρ) ρ w s v->D Keep w (prev s) v):
  ∀(s:SV) {v:Value},G (fun b=>Keep b∨Own M ρ b) (Own M ρ) ρ w s v->D Keep w (zfL prev lm s) v:=by
 have hsub:∀b,Keep b->Keep b∨Own M ρ b:=fun b h=>.inl h
 intro s
 induction s using SV.rec (motive_2:=fun cs=>∀{vs:List Value},Gs (fun b=>Keep b∨Own M ρ b) (Own M ρ) ρ w cs vs->∀(j:Nat) (s:SV) (v:Value),(zfL.frzs prev lm cs)[j]? =some s->vs[j]? =some v->D Keep w s v) with
 | val v=>intro u hg;rw [hg.val_inv];exact .val v
 | pr p i=>intro u hg;rw [hg.pr_inv];exact .pr p i
 | sl enc xs=>intro u hg;exact hg.sl_inv.less hsub
 | nils=>intro u hg;obtain ⟨a,rfl⟩:=hg.nils_inv;exact .nils a
 | anyb=>intro u hg;obtain ⟨b,rfl⟩:=hg.anyb_inv;exact .anyb b
 | full enc xs=>intro u hg;obtain ⟨a,rfl,hd⟩:=hg.full_inv;exact .full enc xs a (hd.less hsub)
 | dptr cs _=>intro u hg;cases hg with | d _ _ h=>exact h.less hsub
 | dfn f cs _=>intro u hg;cases hg with | d _ _ h=>exact h.less hsub
 | bm f cs _=>intro u hg;cases hg with | d _ _ h=>exact h.less hsub
 | op v=>intro u hg;cases hg with | d _ _ h=>exact h.less hsub
 | ifc t s ih=>
  intro u hg;obtain ⟨v,rfl,hv⟩:=hg.ifc_inv;exact .ifc t _ v (ih hv)
 | agg cs ih=>
  intro u hg;obtain ⟨vs,rfl,hvs⟩:=hg.agg_inv;exact .agg _ vs (by rw [zjg,List.length_map];exact hvs.1) (ih hvs)
 | fn f cs ih=>
  intro u hg;obtain ⟨vs,rfl,hvs⟩:=hg.fn_inv;exact .dfn f _ vs (by rw [zjg,List.length_map];exact hvs.1) (ih hvs)
 | loc k off=>
  intro u hg;obtain ⟨b,hρ,rfl⟩:=hg.loc_inv;simp only [zfL]
  split
  ·rename_i T cs hk;have hmem:=hlm k _ hk;obtain ⟨b',vs,h1,h2,h3,h4,h5⟩:=hm.rel k _ hmem;rw [hρ] at h1;cases h1
   have hb:=hm.old b ⟨k,_,_,hmem,hρ,rfl⟩;refine .dptr _ b off (fun j=>(vs[off+j]?).getD undef) hb.1 hb.2 (fun j hj=>?_) (fun j s hs=>?_)
   ·have hj':off+j < vs.length:=by simp at hj;omega
    rw [ze8 h2];simp only [List.getElem?_eq_getElem hj',Option.getD_some];exact ⟨trivial,h4 _ (List.getElem_mem hj')⟩
   ·rw [List.getElem?_drop,List.getElem?_map] at hs
    cases hc:cs[off+j]? with
    | none=>simp [hc] at hs
    | some c=>
     simp [hc] at hs;subst hs;have hj':off+j < vs.length:=by have:=(List.getElem?_eq_some_iff.1 hc).1;omega
     rw [List.getElem?_eq_getElem hj',Option.getD_some];exact hp (h5 _ c _ hc (List.getElem?_eq_getElem hj'))
  ·exact .junk _
 | own k=>
  intro u hg;obtain ⟨hρ,h1⟩:=hg.own_inv;simp only [zfL]
  split
  ·rename_i T α enc sz xs hk;have hmem:=hlm k _ hk;exact zgZ hm hmem (fun b hb=>.inl hb) (fun v b hv hb hk=>(hm.old b ⟨k,_,v,hmem,hv,hb⟩).2 hk) hρ
  ·exact .junk _
 | ptr cs _=>intro u _;exact .junk _
 | eloc _ _ _ _=>intro u _;exact .junk _
 | win _ _ _ _=>intro u _;exact .junk _
 | tup cs _=>intro u _;exact .junk _
 | junk=>intro u _;exact .junk _
 | nil=>rename_i vs _ j s v h _;simp [zfL.frzs] at h
 | cons c cs ihc ihcs=>
  rename_i vs hg j s v h hv;obtain ⟨v0,vs',rfl,h1,h2⟩:=hg.cons_inv
  cases j with
  | zero=>simp [zfL.frzs] at h hv;subst h;subst hv;exact ihc h1
  | succ j=>exact ihcs h2 j s v (by simpa [zfL.frzs] using h) (by simpa using hv)
theorem zoJ(hlm:∀k m,lm k=some m->(k,m)∈M)(hm:zJ Keep M ρ w):∀(n:Nat) {s:SV} {v:Value},G (fun b=>Keep b∨Own M ρ b) (Own M ρ) ρ w s v->D Keep w (frz lm n s) v
 | 0,s,_,h=>zwQ hlm hm (fun _=>.junk _) s h
 | n+1,s,_,h=>zwQ hlm hm (fun h=>zoJ hlm hm n h) s h
end
def endF(n:Nat)(Γ:List (TypeId×TI))(rs:List ResultVar)(r:SV)(e:Ex)(σ:St):Prop:=
 match e with
 | .exit _=>False
 | _=>zbo σ Γ rs fun s=>LE (zhy (zN σ.M) n s) r
theorem vv (n:Nat) {P:Program} {Γ:List (TypeId×TI)} (hT:TOK P Γ) (hm:P.follows .mixedOrders=true) {f:FuncId} {fn:Func} {c:Code} {args:List SV} {r:SV}
  (hf:P.funcs[f]? =some fn) (hb:fn.body=some c) (hn:(fn.name== "runtime.NumGoroutine")=false) (hle:Nat.ble args.length fn.ntmps=true)
  (h:jJ P Γ c ⟨jS 0 args,[],0,fn.ntmps,0⟩ (endF n Γ fn.results.toList r)):zd P f args [] r []:=by
 refine zai hT hm hf hb hn hle h (fun e σ h=>⟨σ,.refl,h⟩) (fun e σ hq he=>?_) (fun id σ hq=>hq)
 have hq:zbo σ Γ fn.results.toList fun s=>LE (zhy (zN σ.M) n s) r:=by
  cases e with
  | exit id=>exact absurd rfl (he id)
  | normal=>exact hq
  | ret=>exact hq
 obtain ⟨s,hle,h1⟩:=yb hT hq;refine ⟨s,h1,fun {E ρ a w v} hr hW _ hg=>⟨ρ,?_,?_,?_⟩⟩
 ·have hs:=hr.stp;exact ⟨hs.os,hs.tape,hs.output,hs.size,fun b hb hn=>hs.block b hb fun h=>hn ((hW b).1 h),fun b hb=>absurd hb zT,hs.rho⟩
 ·exact (qR hr.mem.kp fun _ _ h=>hr.mem.glc h)
 ·have hd:∀{s:SV} {v:Value},G (fun b=>E.Keep b∨Own σ.M ρ b) (Own σ.M ρ) ρ w s v->D (fun b=>E.Keep b∨Own [] ρ b) w (frz (zN σ.M) n s) v:=fun h=>
   (zoJ (fun k m h=>zr h) hr.mem n h).less fun b hb=>hb.resolve_right zT
  refine hle _ _ _ _ _ ?_;unfold zhy
  split
  ·rename_i cs;obtain ⟨vs,rfl,hvs⟩:=hg.tup_inv;refine .tup _ vs (by rw [List.length_map];exact hvs.1) fun j s v hs hv=>?_
   rw [List.getElem?_map] at hs
   cases hc:cs[j]? with
   | none=>simp [hc] at hs
   | some c=>
    simp [hc] at hs;subst hs;exact .d _ _ (hd (hvs.2 j c v hc hv))
  ·exact .d _ _ (hd hg)
theorem zhh (n:Nat) {P:Program} {Γ:List (TypeId×TI)} (hT:TOK P Γ) (hm:P.follows .mixedOrders=true) {f:FuncId} {fn:Func} {c:Code} {args:List SV} {M:List (Nat×Mem)} {r:SV}
  (hf:P.funcs[f]? =some fn) (hb:fn.body=some c) (hn:(fn.name== "runtime.NumGoroutine")=false) (hle:Nat.ble args.length fn.ntmps=true)
  (h:jJ P Γ c ⟨jS 0 args,M,M.length,fn.ntmps,M.length⟩ (endF n Γ fn.results.toList r)):zd P f args M r []:=by
 refine zai hT hm hf hb hn hle h (fun e σ h=>⟨σ,.refl,h⟩) (fun e σ hq he=>?_) (fun id σ hq=>hq)
 have hq:zbo σ Γ fn.results.toList fun s=>LE (zhy (zN σ.M) n s) r:=by
  cases e with
  | exit id=>exact absurd rfl (he id)
  | normal=>exact hq
  | ret=>exact hq
 obtain ⟨s,hle,h1⟩:=yb hT hq;refine ⟨s,h1,fun {E ρ a w v} hr hW _ hg=>⟨ρ,?_,?_,?_⟩⟩
 ·have hs:=hr.stp;exact ⟨hs.os,hs.tape,hs.output,hs.size,fun b hb hn=>hs.block b hb fun h=>hn ((hW b).1 h),fun b hb=>absurd hb zT,hs.rho⟩
 ·exact (qR hr.mem.kp fun _ _ h=>hr.mem.glc h)
 ·have hd:∀{s:SV} {v:Value},G (fun b=>E.Keep b∨Own σ.M ρ b) (Own σ.M ρ) ρ w s v->D (fun b=>E.Keep b∨Own [] ρ b) w (frz (zN σ.M) n s) v:=fun h=>
   (zoJ (fun k m h=>zr h) hr.mem n h).less fun b hb=>hb.resolve_right zT
  refine hle _ _ _ _ _ ?_;unfold zhy
  split
  ·rename_i cs;obtain ⟨vs,rfl,hvs⟩:=hg.tup_inv;refine .tup _ vs (by rw [List.length_map];exact hvs.1) fun j s v hs hv=>?_
   rw [List.getElem?_map] at hs
   cases hc:cs[j]? with
   | none=>simp [hc] at hs
   | some c=>
    simp [hc] at hs;subst hs;exact .d _ _ (hd (hvs.2 j c v hc hv))
  ·exact .d _ _ (hd hg)
end Go.Gs
