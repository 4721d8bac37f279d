/- A joint, both texts. -/
import Derived.Test.YtbgnkgoiocjbnaaGreatMA
import Derived.Test.YtbgnkgoiocjbnaaGreatMBC
import Derived.Test.YtbgnkgoiocjbnaaGreatMBE
set_option maxRecDepth 100000
set_option maxHeartbeats 8000000
set_option linter.all false
namespace Go.Gs
open Go.Proofs
theorem zoq{w:Int}{p:Pt}(hw:zX w)(h:zbl w p):zo p:=by unfold zX at hw;unfold zbl at h;unfold zo;omega
theorem zty(n m:Pt)(w lim:Int):S50 (vR n m w lim).1.x/\S50 (vR n m w lim).1.y:=by
 unfold vR
 split
 ·exact ⟨dC,dC⟩
 ·rename_i h;obtain ⟨hn,hm,hw,_⟩:=Decidable.not_not.1 h;have hs:=zij hn hm;dsimp only
  split
  ·exact ⟨dC,dC⟩
  ·generalize zH n m=s at*;have t:=zdZ hs.1 hw;have t':=zdZ hs.2 hw;exact ⟨yI (M:=1125899906842624) oM,yI (M:=1125899906842624) oM⟩
theorem ztz{a v b:Pt}{p:Pen}(h:k8 p/\zo a/\zo v/\zo b/\¬v=a/\¬v=b):yP a v b p=
  if p.j=3 then kT (vZ v p.w) else if (qH a v b p.w).2.2=false then []
  else kT (kj (if p.j=1/\(vR (qH a v b p.w).1 (qH a v b p.w).2.1 p.w p.m).2=true then [v,zH v (qH a v b p.w).1,zH v (vR (qH a v b p.w).1 (qH a v b p.w).2.1 p.w p.m).1,zH v (qH a v b p.w).2.1]
   else [v,zH v (qH a v b p.w).1,zH v (qH a v b p.w).2.1])):=by
 unfold yP;rw [zV h]
theorem zvs(a v b:Pt)(p:Pen):zd Tryz.prog 181 [.agg (ptE a),.agg (ptE v),.agg (ptE b),.agg (yi p)] [] (.sl zw (yP a v b p)) []:=by
 refine zc tok mix Tryz.func181 rfl rfl rfl ?_
 have bad:¬(k8 p/\zo a/\zo v/\zo b/\¬v=a/\¬v=b)->LE (.val (.slice none 0 0)) (.sl zw (yP a v b p)):=fun h=>by
  unfold yP;rw [if_pos h];exact ku
 refine zb.t (zdW p) ?_;refine Br.mk (fun a1=>bad (fun h=>a1 h.1)) (fun a1=>?_);refine zb.t (qc a) ?_;refine Br.mk (fun a2=>bad (fun h=>a2 h.2.1)) (fun a2=>?_);refine zb.t (qc v) ?_;refine Br.mk (fun a3=>bad (fun h=>a3 h.2.2.1)) (fun a3=>?_);refine zb.t (qc b) ?_;refine Br.mk (fun a4=>bad (fun h=>a4 h.2.2.2.1)) (fun a4=>?_);refine Br.mk (fun a5=>bad (fun h=>h.2.2.2.2.1 (qx.1 a5))) (fun a5=>?_);refine Br.mk (fun a6=>bad (fun h=>h.2.2.2.2.2 (qx.1 a6))) (fun a6=>?_)
 have hok:k8 p/\zo a/\zo v/\zo b/\¬v=a/\¬v=b:=
  ⟨Decidable.not_not.1 a1,Decidable.not_not.1 a2,Decidable.not_not.1 a3,Decidable.not_not.1 a4,fun e=>a5 (qx.2 e),fun e=>a6 (qx.2 e)⟩
 have hv:=hok.2.2.1;have hw:=hok.1.1;have e:=ztz hok;refine Br.mk (fun j1=>?_) (fun j1=>?_)
 ·have j1:p.j=3:=j1;refine zb.t (zmT v p.w) ?_;refine zb.t (zjE (vZ v p.w)) ?_;exact qb (e.trans (if_pos j1)).symm
 have j1:¬p.j=3:=j1;rw [if_neg j1] at e;refine zb.t (ztd a v b p.w) ?_;refine Br.mk (fun k=>?_) (fun k=>?_)
 ·have k:¬(qH a v b p.w).2.2=true:=k;rw [if_pos (by simpa using k)] at e;rw [e];exact ku
 have k:(qH a v b p.w).2.2=true:=Decidable.not_not.1 k;rw [if_neg (by rw [k];decide)] at e;have oh:=zgW (a:=a) (v:=v) (b:=b) hw;have o1:=zoq hw oh.1;have o2:=zoq hw oh.2;generalize (qH a v b p.w).1=n at*;generalize (qH a v b p.w).2.1=m at*;refine Dr.d ?_;refine zb.t (zcs v n hv.p45.s o1.p45.s) ?_;refine ⟨Pt,ptE,[v,zH v n],rfl,Ob.o0 ?_⟩;refine Ob.mk (by kernel_rfl) ?_
 have tail:∀(q:List Pt),(¬(p.j=1/\(vR n m p.w p.m).2=true))->q=[v,zH v n,zH v m]->LE (.sl zw (kT (kj q))) (.sl zw (yP a v b p)):=fun q h hq=>by
  rw [e,if_neg h,hq];exact .refl
 refine Br.mk (fun j2=>?_) (fun j2=>?_)
 ·have j2:p.j=1:=j2;refine zb.t (p_tip n m p.w p.m) ?_;have ht:=zty n m p.w p.m;refine Br.mk (fun s1=>?_) (fun s1=>?_)
  ·refine zb.t (zcs v (vR n m p.w p.m).1 hv.p45.s ht) ?_;refine ⟨Pt,ptE,[zH v (vR n m p.w p.m).1],rfl,Ob.o0 ?_⟩;refine ⟨[zH v (vR n m p.w p.m).1],rfl,Ob.o8 ?_⟩;refine zb.t (zcs v m hv.p45.s o2.p45.s) ?_;refine ⟨Pt,ptE,[zH v m],rfl,Ob.o0 ?_⟩;refine ⟨[zH v m],rfl,Ob.o15 ?_⟩;refine zb.see 11 _ (uD [v,zH v n,zH v (vR n m p.w p.m).1,zH v m] (by show ((4:Nat):Int)<=_;decide)) rfl rfl rfl ?_;refine zb.t (zjE (kj [v,zH v n,zH v (vR n m p.w p.m).1,zH v m])) ?_;rw [e,if_pos ⟨j2,s1⟩];exact .refl
  ·refine zb.t (zcs v m hv.p45.s o2.p45.s) ?_;refine ⟨Pt,ptE,[zH v m],rfl,Ob.o0 ?_⟩;refine ⟨[zH v m],rfl,Ob.o8 ?_⟩;refine zb.see 9 _ (uD [v,zH v n,zH v m] (by show ((3:Nat):Int)<=_;decide)) rfl rfl rfl ?_;refine zb.t (zjE (kj [v,zH v n,zH v m])) ?_;exact tail _ (fun h=>s1 h.2) rfl
 ·have j2:¬p.j=1:=j2;refine zb.t (zcs v m hv.p45.s o2.p45.s) ?_;refine ⟨Pt,ptE,[zH v m],rfl,Ob.o0 ?_⟩;refine ⟨[zH v m],rfl,Ob.o8 ?_⟩;refine zb.see 8 _ (uD [v,zH v n,zH v m] (by show ((3:Nat):Int)<=_;decide)) rfl rfl rfl ?_;refine zb.t (zjE (kj [v,zH v n,zH v m])) ?_;exact tail _ (fun h=>j2 h.1) rfl
theorem zxO(a v b:Pt)(p:Pen):zd Tryz.prog 245 [.agg (ptE a),.agg (ptE v),.agg (ptE b),.agg (yi p)] [] (.sl zw (yP a v b p)) []:=by
 refine zc tok mix Tryz.func245 rfl rfl rfl ?_
 have bad:¬(k8 p/\zo a/\zo v/\zo b/\¬v=a/\¬v=b)->LE (.val (.slice none 0 0)) (.sl zw (yP a v b p)):=fun h=>by
  unfold yP;rw [if_pos h];exact ku
 refine zb.t (zta p) ?_;refine Br.mk (fun a1=>bad (fun h=>a1 h.1)) (fun a1=>?_);refine zb.t (yG a) ?_;refine Br.mk (fun a2=>bad (fun h=>a2 h.2.1)) (fun a2=>?_);refine zb.t (yG v) ?_;refine Br.mk (fun a3=>bad (fun h=>a3 h.2.2.1)) (fun a3=>?_);refine zb.t (yG b) ?_;refine Br.mk (fun a4=>bad (fun h=>a4 h.2.2.2.1)) (fun a4=>?_);refine Br.mk (fun a5=>bad (fun h=>h.2.2.2.2.1 (qx.1 a5))) (fun a5=>?_);refine Br.mk (fun a6=>bad (fun h=>h.2.2.2.2.2 (qx.1 a6))) (fun a6=>?_)
 have hok:k8 p/\zo a/\zo v/\zo b/\¬v=a/\¬v=b:=
  ⟨Decidable.not_not.1 a1,Decidable.not_not.1 a2,Decidable.not_not.1 a3,Decidable.not_not.1 a4,fun e=>a5 (qx.2 e),fun e=>a6 (qx.2 e)⟩
 have hv:=hok.2.2.1;have hw:=hok.1.1;have e:=ztz hok
 have fin:∀(r:List Pt),yP a v b p=kT r->((r.length:Int)=0->LE (.val (.slice none 0 0)) (.sl zw (yP a v b p)))/\(¬(r.length:Int)=0->yP a v b p=[r]):=fun r hr=>by
  refine ⟨fun h=>?_,fun h=>?_⟩
  ·have:r=[]:=List.eq_nil_of_length_eq_zero oM;rw [hr,this];exact ku
  ·rw [hr];unfold kT;rw [if_neg (fun k=>h (by rw [k];rfl))]
 refine Br.mk (fun j1=>?_) (fun j1=>?_)
 ·have j1:p.j=3:=j1;refine zb.t (zwD v p.w) ?_;intro hl;have f:=fin _ (e.trans (if_pos j1));refine Br.mk (fun z=>f.1 z) (fun z=>?_);refine ⟨List Pt,zw,[vZ v p.w],rfl,Ob.o0 ?_⟩;exact qb (f.2 z).symm
 have j1:¬p.j=3:=j1;rw [if_neg j1] at e;refine zb.t (zxr a v b p.w) ?_;refine Br.mk (fun k=>?_) (fun k=>?_)
 ·have k:¬(qH a v b p.w).2.2=true:=k;rw [if_pos (by simpa using k)] at e;rw [e];exact ku
 have k:(qH a v b p.w).2.2=true:=Decidable.not_not.1 k;rw [if_neg (by rw [k];decide)] at e;have oh:=zgW (a:=a) (v:=v) (b:=b) hw;have o1:=zoq hw oh.1;have o2:=zoq hw oh.2;generalize (qH a v b p.w).1=n at*;generalize (qH a v b p.w).2.1=m at*;refine zb.t (r_tip n m p.w p.m) ?_;have ht:=zty n m p.w p.m;have cn:=zwJ v n;rw [zrr hv o1] at cn;have cm:=zwJ v m;rw [zrr hv o2] at cm;refine Dr.d ?_;refine zb.t cn ?_;refine ⟨Pt,ptE,[v,zH v n],rfl,Ob.o0 ?_⟩;refine Ob.mk (by kernel_rfl) ?_
 have plain:(¬(p.j=1/\(vR n m p.w p.m).2=true))->yP a v b p=kT (kj [v,zH v n,zH v m]):=fun h=>by
  rw [e,if_neg h]
 refine Br.mk (fun j2=>?_) (fun j2=>?_)
 ·have j2:p.j=1:=j2;refine Br.mk (fun s1=>?_) (fun s1=>?_)
  ·unfold zo at hv;(iterate 2 refine Ar.o ?_);refine ⟨Pt,ptE,[zH v (vR n m p.w p.m).1],rfl,Ob.o0 ?_⟩;refine ⟨[zH v (vR n m p.w p.m).1],rfl,Ob.o8 ?_⟩;refine zb.t cm ?_;refine ⟨Pt,ptE,[zH v m],rfl,Ob.o0 ?_⟩;refine ⟨[zH v m],rfl,Ob.o15 ?_⟩;refine zb.see 11 _ (zvZ [v,zH v n,zH v (vR n m p.w p.m).1,zH v m]) rfl rfl rfl ?_;intro hl;have f:=fin (kj [v,zH v n,zH v (vR n m p.w p.m).1,zH v m]) (by rw [e,if_pos ⟨j2,s1⟩]);refine Br.mk (fun z=>f.1 z) (fun z=>?_);refine ⟨List Pt,zw,[kj [v,zH v n,zH v (vR n m p.w p.m).1,zH v m]],rfl,Ob.o0 ?_⟩
   exact qb (f.2 z).symm
  ·refine zb.t cm ?_;refine ⟨Pt,ptE,[zH v m],rfl,Ob.o0 ?_⟩;refine ⟨[zH v m],rfl,Ob.o8 ?_⟩;refine zb.see 9 _ (zvZ [v,zH v n,zH v m]) rfl rfl rfl ?_;intro hl;have f:=fin (kj [v,zH v n,zH v m]) (plain fun h=>s1 h.2);refine Br.mk (fun z=>f.1 z) (fun z=>?_);refine ⟨List Pt,zw,[kj [v,zH v n,zH v m]],rfl,Ob.o0 ?_⟩;exact qb (f.2 z).symm
 ·have j2:¬p.j=1:=j2;refine zb.t cm ?_;refine ⟨Pt,ptE,[zH v m],rfl,Ob.o0 ?_⟩;refine ⟨[zH v m],rfl,Ob.o8 ?_⟩;refine zb.see 9 _ (zvZ [v,zH v n,zH v m]) rfl rfl rfl ?_;intro hl;have f:=fin (kj [v,zH v n,zH v m]) (plain fun h=>j2 h.1);refine Br.mk (fun z=>f.1 z) (fun z=>?_);refine ⟨List Pt,zw,[kj [v,zH v n,zH v m]],rfl,Ob.o0 ?_⟩;exact qb (f.2 z).symm
theorem zgY{l:List Pl}{i:Nat}{x:Pl}(h:l[i]? =some x):qS (l.take (i+1))=qS (l.take i)++if 3<=x.pts.length then [x.pts] else []:=by
 unfold qS;rw [List.take_add_one,h]
 by_cases c:3<=x.pts.length
 ·simp [c]
 ·simp [c]
theorem zgZ(l:List Pl):(qS l).length<=l.length:=by
 unfold qS;rw [List.length_map];exact List.length_filter_le _ _
theorem zrQ(l:List Pl)(hl:l.length<=4096)(hp:∀q∈l,q.pts.length<=4096):zd Tryz.prog 39 [.sl plE l] [] (.sl zw (qS l)) []:=by
 refine zc tok mix Tryz.func39 rfl rfl rfl ?_;intro hl1;refine ⟨Nat,fun i=>⟨[(3,.own 0),(6,.sl plE l),(7,i64 (l.length:Int)),(8,i64 (i:Int))],[(0,.arr 76 zw 1 (qS (l.take i)))],1,24,0⟩,fun i=>i<=l.length,fun i=>l.length - i,0,?_,?_,?_⟩
 ·exact Nat.zero_le _
 ·exact zh [(0,none)]
 rintro i hi
 have hlen:=zgZ (l.take i);rw [List.length_take] at hlen;refine Br.mk (fun g=>?_) (fun g=>?_)
 ·have g:(i:Int) < l.length:=g;refine Ob.o ?_;intro x hx;have hx:l[i]? =some x:=hx;intro hl3;have e:=zgY hx;refine Br.mk (fun c=>?_) (fun c=>?_)
  ·have c:(3:Int)<=x.pts.length:=c;refine zb.t ((zjD x.pts (hp x (List.mem_of_getElem? hx))).plain rfl) ?_;refine ⟨List Pt,zw,[x.pts],rfl,Ob.o0 ?_⟩;refine ⟨[x.pts],rfl,Ob.o9 ?_⟩;refine Ar.o ?_;refine ⟨i+1,oM,zM [(0,some 3)] ⟨congrArg (fun q=>some (Mem.arr 76 zw 1 q)) ?_,trivial⟩,by dsimp only;omega⟩;rw [e,if_pos oM]
  ·have c:¬(3:Int)<=x.pts.length:=c;refine Ar.o ?_;refine ⟨i+1,oM,zM [(0,some 0)] ⟨congrArg (fun q=>some (Mem.arr 76 zw 1 q)) ?_,trivial⟩,by dsimp only;omega⟩;rw [e,if_neg oM,List.append_nil]
 ·have g:¬(i:Int) < l.length:=g;exact qb (by rw [List.take_of_length_le oM])
theorem zrR(l:List Pl)(hl:l.length<=4096)(hp:∀q∈l,q.pts.length<=4096):zd Tryz.prog 42 [.sl plE l] [] (.sl zw (qS l)) []:=by
 refine zc tok mix Tryz.func42 rfl rfl rfl ?_;refine ⟨List Pt,zw,[],rfl,Ob.o2 ?_⟩;refine ⟨Nat,fun i=>⟨[(3,.own 0),(0,.sl plE l),(4,i64 (i:Int))],[(0,.arr 76 zw 1 (qS (l.take i)))],1,29,0⟩,fun i=>i<=l.length,fun i=>l.length - i,0,?_,?_,?_⟩
 ·exact Nat.zero_le _
 ·exact zh [(0,some 0)]
 rintro i hi
 have hlen:=zgZ (l.take i);rw [List.length_take] at hlen;intro hl1;refine Br.mk (fun g=>?_) (fun g=>?_)
 ·have g:(i:Int) < l.length:=g;refine Ob.o ?_;intro x hx;have hx:l[i]? =some x:=hx;intro hl3;have e:=zgY hx;refine Br.mk (fun c=>?_) (fun c=>?_)
  ·have c:(3:Int)<=x.pts.length:=c;refine Ob.o ?_;intro y hy;have ey:y=x:=Option.some.inj ((show l[i]? =some y from hy).symm.trans hx);rw [ey];refine zb.t (zrc x.pts (hp x (List.mem_of_getElem? hx))) ?_;refine ⟨List Pt,zw,[x.pts],rfl,Ob.o0 ?_⟩;refine ⟨[x.pts],rfl,Ob.o9 ?_⟩;refine Ar.o ?_;refine ⟨i+1,oM,zM [(0,some 2)] ⟨congrArg (fun q=>some (Mem.arr 76 zw 1 q)) ?_,trivial⟩,by dsimp only;omega⟩;rw [e,if_pos oM]
  ·have c:¬(3:Int)<=x.pts.length:=c;refine Ar.o ?_;refine ⟨i+1,oM,zM [(0,some 0)] ⟨congrArg (fun q=>some (Mem.arr 76 zw 1 q)) ?_,trivial⟩,by dsimp only;omega⟩;rw [e,if_neg oM,List.append_nil]
 ·have g:¬(i:Int) < l.length:=g;exact qb (by rw [List.take_of_length_le oM])
theorem vg{a b c:Int}(ha: -1048576<=a/\a<=1048576)(hb: -1048576<=b/\b<=1048576)(hc: -1048576<=c/\c<=1048576):
  (-4194304<=a - 2*b+c/\a - 2*b+c<=4194304)/\0<=(a - 2*b+c)*(a - 2*b+c)/\(a - 2*b+c)*(a - 2*b+c)<=17592186044416:=by
 have h: -4194304<=a - 2*b+c/\a - 2*b+c<=4194304:=oM;have h1:=qZ (A:=4194304) (B:=4194304) h h;have h2:=jm (a - 2*b+c);omega
theorem uo{a b c:Pt}(ha:zo a)(hb:zo b)(hc:zo c):0<=jg a b c/\jg a b c<=35184372088832:=by
 have h1:=vg ha.1 hb.1 hc.1;have h2:=vg ha.2 hb.2 hc.2;unfold jg;omega
theorem zg0(a b c:Pt)(ha:zo a)(hb:zo b)(hc:zo c):zd Tryz.prog 250 [.agg (ptE a),.agg (ptE b),.agg (ptE c)] [] (i64 (jg a b c)) []:=by
 have h1:=vg ha.1 hb.1 hc.1;have h2:=vg ha.2 hb.2 hc.2;unfold zo at ha hb hc;refine zc tok mix Tryz.func250 rfl rfl rfl ?_;refine Dr.k ?_;(iterate 9 refine Ar.o ?_);exact .refl
theorem zm4(a b c:Pt)(ha:zo a)(hb:zo b)(hc:zo c):zd Tryz.prog 308 [.agg (ptE a),.agg (ptE b),.agg (ptE c)] [] (i64 (jg a b c)) []:=by
 have h1:=vg ha.1 hb.1 hc.1;have h2:=vg ha.2 hb.2 hc.2;unfold zo at ha hb hc;refine zc tok mix Tryz.func308 rfl rfl rfl ?_;(iterate 9 refine Ar.o ?_);exact .refl
theorem zde{need tol:Int}{i:Nat}(h:i<=64):jK need tol (65 - i) i=if enough need tol i then ((i:Int),0) else jK need tol (65 - (i+1)) (i+1):=by
 rw [show 65 - i=(64 - i)+1 by omega,jK,show 65 - (i+1)=64 - i by omega]
theorem zdf{i:Nat}{tol:Int}(hi:i<=64)(ht:1<=tol/\tol<=256):
  (-65536<=16*(i:Int)*i/\16*(i:Int)*i<=65536)/\(-4194304<=16*(i:Int)*i*i/\16*(i:Int)*i*i<=4194304)/\
  (-268435456<=16*(i:Int)*i*i*i/\16*(i:Int)*i*i*i<=268435456)/\(-68719476736<=16*(i:Int)*i*i*i*tol/\16*(i:Int)*i*i*i*tol<=68719476736)/\
  (-17592186044416<=16*(i:Int)*i*i*i*tol*tol/\16*(i:Int)*i*i*i*tol*tol<=17592186044416):=by
 have h2:=qZ (A:=1024) (B:=64) (a:=16*(i:Int)) (b:=i) oM oM;have h3:=qZ (A:=65536) (B:=64) (a:=16*(i:Int)*i) (b:=i) oM oM;have h4:=qZ (A:=4194304) (B:=64) (a:=16*(i:Int)*i*i) (b:=i) oM oM;have h5:=qZ (A:=268435456) (B:=256) (a:=16*(i:Int)*i*i*i) (b:=tol) oM oM;have h6:=qZ (A:=68719476736) (B:=256) (a:=16*(i:Int)*i*i*i*tol) (b:=tol) oM oM;omega
def ze8(c:Int×Int):SV:=.tup [i64 c.1,i64 c.2]
theorem yj{c:Int×Int}{a b:Int}(h:c=(a,b)):LE (.tup [i64 a,i64 b]) (ze8 c):=by subst h;exact .refl
theorem zlM(need tol:Int)(l:List Pt)(hl:l.length<=4):zd Tryz.prog 249 [i64 need,i64 tol,.sl ptE l] [] (ze8 (kr need tol l)) []:=by
 refine zc tok mix Tryz.func249 rfl rfl rfl ?_;have bad:¬(1<=tol/\tol<=256)->kr need tol l=(0,2):=fun h=>by unfold kr;rw [if_pos h]
 refine Br.mk (fun a1=>yj (bad (fun h=>by have a1:tol < 1:=a1;omega))) (fun a1=>?_);refine Br.mk (fun a2=>yj (bad (fun h=>by have a2:256 < tol:=a2;omega))) (fun a2=>?_);have ht:1<=tol/\tol<=256:=⟨by have a1:¬tol < 1:=a1;omega,by have a2:¬256 < tol:=a2;omega⟩;intro hl2;refine ⟨Nat,fun i=>⟨[(0,i64 need),(1,i64 tol),(17,.sl ptE l),(18,i64 (l.length:Int)),(19,i64 (i:Int))],[],0,46,0⟩,fun i=>i<=l.length/\∀p∈l.take i,zo p,fun i=>l.length - i,0,?_,?_,?_⟩
 ·exact ⟨Nat.zero_le _,fun p hp=>by cases hp⟩
 ·exact zh []
 rintro i ⟨h1,h2⟩
 refine Br.mk (fun g=>?_) (fun g=>?_)
 ·have g:(i:Int) < l.length:=g;refine Ob.o ?_;intro x hx;have hx:l[i]? =some x:=hx;refine zb.t (qc x) ?_;refine Br.mk (fun b=>?_) (fun b=>?_)
  ·refine yj ?_;unfold kr;rw [zV ht,if_pos (fun k=>b (k x (List.mem_of_getElem? hx)))]
  ·have b:=Decidable.not_not.1 b;refine Ar.o ?_;refine ⟨i+1,⟨oM,fun p hp=>?_⟩,zh [],by dsimp only;omega⟩;rw [List.take_add_one,hx] at hp
   rcases List.mem_append.1 hp with hp | hp
   ·exact h2 p hp
   ·simp at hp;rw [hp];exact b
 have g:¬(i:Int) < l.length:=g;have hv:∀p∈l,zo p:=by rw [List.take_of_length_le oM] at h2;exact h2
 have e:kr need tol l=jK need tol 64 1:=by unfold kr;rw [zV ht,zV hv]
 refine ⟨Nat,fun i=>⟨[(0,i64 need),(1,i64 tol),(10,i64 (i:Int))],[],0,46,0⟩,fun i=>1<=i/\i<=65/\jK need tol (65 - i) i=jK need tol 64 1,fun i=>65 - i,1,?_,?_,?_⟩
 ·exact ⟨dC,dC,rfl⟩
 ·exact zh []
 rintro i ⟨h3,h4,h5⟩
 refine Br.mk (fun g=>?_) (fun g=>?_)
 ·have g:(i:Int)<=64:=g;have ch:=zdf (i:=i) oM ht;have st:=zde (need:=need) (tol:=tol) (i:=i) oM;rw [h5] at st;(iterate 6 refine Ar.o ?_);refine Br.mk (fun k=>?_) (fun k=>?_)
  ·have k:enough need tol i:=k;exact yj (by rw [e,st,if_pos k])
  ·have k:¬enough need tol i:=k;refine Ar.o ?_;refine ⟨i+1,⟨oM,oM,by rw [st,if_neg k]⟩,zh [],by dsimp only;omega⟩
 ·have g:¬(i:Int)<=64:=g;have h6:i=65:=oM;subst h6;exact yj (by rw [e,← h5];rfl)
theorem zrS(tol:Int):zd Tryz.prog 80 [i64 tol] [] (pr (zbY tol)) []:=by
 refine zc tok mix Tryz.func80 rfl rfl rfl ?_;refine Br.mk (fun h=>?_) (fun h=>ze (fun k=>h k.1));exact kZ ⟨fun k=>⟨h,k⟩,fun k=>k.2⟩
theorem zjR(l:List Pt):zd Tryz.prog 297 [.sl ptE l] [] (pr (∀p∈l,zo p)) []:=by
 refine zc tok mix Tryz.func297 rfl rfl rfl ?_;refine ⟨Nat,fun i=>⟨[(0,.sl ptE l),(3,i64 (i:Int))],[],0,16,0⟩,fun i=>i<=l.length/\∀p∈l.take i,zo p,fun i=>l.length - i,0,?_,?_,?_⟩
 ·exact ⟨Nat.zero_le _,fun p hp=>by cases hp⟩
 ·exact zh []
 rintro i ⟨h1,h2⟩
 intro hl1;refine Br.mk (fun g=>?_) (fun g=>?_)
 ·have g:(i:Int) < l.length:=g;refine Ob.o ?_;intro x hx;have hx:l[i]? =some x:=hx;refine zb.t (yG x) ?_;refine Br.mk (fun b=>ze fun k=>b (k x (List.mem_of_getElem? hx))) (fun b=>?_);have b:=Decidable.not_not.1 b;refine Ar.o ?_;refine ⟨i+1,⟨oM,fun p hp=>?_⟩,zh [],by dsimp only;omega⟩;rw [List.take_add_one,hx] at hp
  rcases List.mem_append.1 hp with hp | hp
  ·exact h2 p hp
  ·simp at hp;rw [hp];exact b
 ·have g:¬(i:Int) < l.length:=g;rw [List.take_of_length_le oM] at h2;exact kC h2
theorem ztA(a b c:Pt)(tol:Int):zd Tryz.prog 295 [.sl ptE [a,b,c],i64 tol,i64 1] [] (ze8 (kr (1*(jg a b c)) tol [a,b,c])) []:=by
 refine zc tok mix Tryz.func295 rfl rfl rfl ?_;refine zb.t (zrS tol) ?_;refine Br.mk (fun a1=>yj (by unfold kr;rw [if_pos (show ¬(1<=tol/\tol<=256) from a1)])) (fun a1=>?_);have ht:1<=tol/\tol<=256:=Decidable.not_not.1 a1;refine zb.t (zjR [a,b,c]) ?_;refine Br.mk (fun a2=>yj (by unfold kr;rw [zV ht,if_pos a2])) (fun a2=>?_);have hv:∀p∈[a,b,c],zo p:=Decidable.not_not.1 a2;have e:kr (1*(jg a b c)) tol [a,b,c]=jK (1*(jg a b c)) tol 64 1:=by unfold kr;rw [zV ht,zV hv]
 have ha:=hv a (by simp);have hb:=hv b (by simp);have hc:=hv c (by simp);have r1:=uo ha hb hc;refine Dr.k ?_;refine Ob.mk (by show (0:Int)<=0/\(0:Int) < (3:Nat);decide) ?_;intro x hx
 cases (show some a=some x from hx)
 refine Ob.mk (by show (0:Int)<=1/\(1:Int) < (3:Nat);decide) ?_;intro x hx
 cases (show some b=some x from hx)
 refine Ob.mk (by show (0:Int)<=2/\(2:Int) < (3:Nat);decide) ?_;intro x hx
 cases (show some c=some x from hx)
 refine zb.t (zm4 a b c ha hb hc) ?_;intro hl;refine Br.mk (fun k=>absurd k (by show ¬(3:Int) < (3:Nat);decide)) (fun _=>?_);generalize hD:jg a b c=D at*;have rD:0<=D/\D<=35184372088832:=oM;refine ⟨Nat,fun i=>⟨[(1,i64 tol),(2,i64 1),(8,i64 D),(9,i64 (i:Int))],[],0,62,0⟩,fun i=>1<=i/\i<=65/\jK (1*D) tol (65 - i) i=jK (1*D) tol 64 1,fun i=>65 - i,1,?_,?_,?_⟩
 ·exact ⟨dC,dC,rfl⟩
 ·exact zh []
 rintro i ⟨h3,h4,h5⟩
 refine Br.mk (fun g=>?_) (fun g=>?_)
 ·have g:(i:Int)<=64:=g;have ch:=zdf (i:=i) oM ht;have st:=zde (need:=1*D) (tol:=tol) (i:=i) oM;rw [h5] at st;(iterate 7 refine Ar.o ?_);refine Br.mk (fun k=>?_) (fun k=>?_)
  ·have k:enough (1*D) tol i:=k;exact yj (by rw [e,st,if_pos k])
  ·have k:¬enough (1*D) tol i:=k;refine Ar.o ?_;refine ⟨i+1,⟨oM,oM,by rw [st,if_neg k]⟩,zh [],by dsimp only;omega⟩
 ·have g:¬(i:Int)<=64:=g;have h6:i=65:=oM;subst h6;exact yj (by rw [e,← h5];rfl)
theorem ztB(a b c d:Pt)(tol:Int):zd Tryz.prog 295 [.sl ptE [a,b,c,d],i64 tol,i64 9] [] (ze8 (kr (9*(max (jg a b c) (jg b c d))) tol [a,b,c,d])) []:=by
 refine zc tok mix Tryz.func295 rfl rfl rfl ?_;refine zb.t (zrS tol) ?_;refine Br.mk (fun a1=>yj (by unfold kr;rw [if_pos (show ¬(1<=tol/\tol<=256) from a1)])) (fun a1=>?_);have ht:1<=tol/\tol<=256:=Decidable.not_not.1 a1;refine zb.t (zjR [a,b,c,d]) ?_;refine Br.mk (fun a2=>yj (by unfold kr;rw [zV ht,if_pos a2])) (fun a2=>?_);have hv:∀p∈[a,b,c,d],zo p:=Decidable.not_not.1 a2;have e:kr (9*(max (jg a b c) (jg b c d))) tol [a,b,c,d]=jK (9*(max (jg a b c) (jg b c d))) tol 64 1:=by unfold kr;rw [zV ht,zV hv]
 have ha:=hv a (by simp);have hb:=hv b (by simp);have hc:=hv c (by simp);have hd:=hv d (by simp);have r1:=uo ha hb hc;have r2:=uo hb hc hd;refine Dr.k ?_;refine Ob.mk (by show (0:Int)<=0/\(0:Int) < (4:Nat);decide) ?_;intro x hx
 cases (show some a=some x from hx)
 refine Ob.mk (by show (0:Int)<=1/\(1:Int) < (4:Nat);decide) ?_;intro x hx
 cases (show some b=some x from hx)
 refine Ob.mk (by show (0:Int)<=2/\(2:Int) < (4:Nat);decide) ?_;intro x hx
 cases (show some c=some x from hx)
 refine zb.t (zm4 a b c ha hb hc) ?_;intro hl;refine Br.mk (fun _=>?_) (fun k=>absurd (show (3:Int) < (4:Nat) by decide) k);refine Dr.k ?_;refine Ob.mk (by show (0:Int)<=1/\(1:Int) < (4:Nat);decide) ?_;intro x hx
 cases (show some b=some x from hx)
 refine Ob.mk (by show (0:Int)<=2/\(2:Int) < (4:Nat);decide) ?_;intro x hx
 cases (show some c=some x from hx)
 refine Ob.mk (by show (0:Int)<=3/\(3:Int) < (4:Nat);decide) ?_;intro x hx
 cases (show some d=some x from hx)
 refine zb.t (zm4 b c d hb hc hd) ?_;generalize hD:max (jg a b c) (jg b c d)=D at*;have rD:0<=D/\D<=35184372088832:=oM;refine ⟨Nat,fun i=>⟨[(1,i64 tol),(2,i64 9),(8,i64 D),(9,i64 (i:Int))],[],0,62,0⟩,fun i=>1<=i/\i<=65/\jK (9*D) tol (65 - i) i=jK (9*D) tol 64 1,fun i=>65 - i,1,?_,?_,?_⟩
 ·exact ⟨dC,dC,rfl⟩
 ·exact z0 [] ⟨rfl,rfl,congrArg (fun q=>some (i64 q)) hD,rfl,trivial⟩ trivial
 rintro i ⟨h3,h4,h5⟩
 refine Br.mk (fun g=>?_) (fun g=>?_)
 ·have g:(i:Int)<=64:=g;have ch:=zdf (i:=i) oM ht;have st:=zde (need:=9*D) (tol:=tol) (i:=i) oM;rw [h5] at st;(iterate 7 refine Ar.o ?_);refine Br.mk (fun k=>?_) (fun k=>?_)
  ·have k:enough (9*D) tol i:=k;exact yj (by rw [e,st,if_pos k])
  ·have k:¬enough (9*D) tol i:=k;refine Ar.o ?_;refine ⟨i+1,⟨oM,oM,by rw [st,if_neg k]⟩,zh [],by dsimp only;omega⟩
 ·have g:¬(i:Int)<=64:=g;have h6:i=65:=oM;subst h6;exact yj (by rw [e,← h5];rfl)
theorem zpF(a b c:Pt)(tol:Int)(ha:zo a)(hb:zo b)(hc:zo c):zd Tryz.prog 192 [.agg (ptE a++ptE b++ptE c),i64 tol] [] (ze8 (qj a b c tol)) []:=by
 refine zc tok mix Tryz.func192 rfl rfl rfl ?_;refine zcV.data ?_;refine Dr.k ?_;have r1:=uo ha hb hc;refine zb.t (zg0 a b c ha hb hc) ?_;refine ⟨Pt,ptE,[a,b,c],rfl,Ob.o13 ?_⟩;refine zb.t (zlM (jg a b c) tol [a,b,c] (by show 3<=4;decide)) ?_;exact .refl
theorem zpG(a b c:Pt)(tol:Int):zd Tryz.prog 256 [.agg (ptE a++ptE b++ptE c),i64 tol] [] (ze8 (qj a b c tol)) []:=by
 refine zc tok mix Tryz.func256 rfl rfl rfl ?_;refine zcV.data ?_;refine ⟨Pt,ptE,[a,b,c],rfl,Ob.o0 ?_⟩;have c0:=ztA a b c tol;rw [Int.one_mul] at c0;refine zb.see 0 _ c0 rfl rfl rfl ?_;exact .refl
theorem zpH(a b c d:Pt)(tol:Int)(ha:zo a)(hb:zo b)(hc:zo c)(hd:zo d):zd Tryz.prog 197 [.agg (ptE a++ptE b++ptE c++ptE d),i64 tol] [] (ze8 (qk a b c d tol)) []:=by
 refine zc tok mix Tryz.func197 rfl rfl rfl ?_;refine zcV.data ?_;refine Dr.k ?_;have r1:=uo ha hb hc;refine zb.t (zg0 a b c ha hb hc) ?_;have r2:=uo hb hc hd;refine zb.t (zg0 b c d hb hc hd) ?_;refine Ar.fit (by show -9223372036854775808<=9*max (jg a b c) (jg b c d)/\9*max (jg a b c) (jg b c d)<=9223372036854775807;omega) ?_;refine ⟨Pt,ptE,[a,b,c,d],rfl,Ob.o13 ?_⟩;refine zb.t (zlM (9*max (jg a b c) (jg b c d)) tol [a,b,c,d] (by show 4<=4;decide)) ?_;exact .refl
theorem zpI(a b c d:Pt)(tol:Int):zd Tryz.prog 258 [.agg (ptE a++ptE b++ptE c++ptE d),i64 tol] [] (ze8 (qk a b c d tol)) []:=by
 refine zc tok mix Tryz.func258 rfl rfl rfl ?_;refine zcV.data ?_;refine ⟨Pt,ptE,[a,b,c,d],rfl,Ob.o0 ?_⟩;have c0:=ztB a b c d tol;refine zb.see 0 _ c0 rfl rfl rfl ?_;exact .refl
end Go.Gs
