/- Scenes, the other text: Check, Valid, parents, ancestors. -/
import Derived.Test.YtcjnhffjmonbeaaGreatDoorMA
import Derived.Test.YtcjnhffjmonbeaaGreatDoorMBM
import Derived.Test.YtcjnhffjmonbeaaGreatDoorMBL
import Derived.Test.YtcjnhffjmonbeaaGreatDoorMBK
set_option maxRecDepth 100000
set_option maxHeartbeats 8000000
set_option linter.all false
namespace Go.Gs
open Go.Proofs
def zfO(l:List Nd)(id:Int):Int:=match l.findIdx? (fun n=>n.id=id) with | some i=>i | none=> -1
theorem zpX{l:List Nd}{id:Int}{i:Nat}{x:Nd}(h:∀(j:Nat) q,j < i->l[j]? =some q->q.id≠id)(hx:l[i]? =some x)(hb:x.id=id):zfO l id=i:=by
 have:l.findIdx? (fun n=>n.id=id)=some i:=by
  rw [List.findIdx?_eq_some_iff_getElem];have hi:=(List.getElem?_eq_some_iff.1 hx);refine ⟨hi.1,by rw [hi.2];simpa using hb,fun j hj=>?_⟩;have:=h j _ hj (List.getElem?_eq_getElem (by have:=hi.1;omega))
  simpa using this
 unfold zfO;rw [this]
theorem zfP{l:List Nd}{id:Int}(h:∀p∈l,p.id≠id):zfO l id= -1:=by
 have:l.findIdx? (fun n=>n.id=id)=none:=by
  rw [List.findIdx?_eq_none_iff];intro p hp;simpa using h p hp
 unfold zfO;rw [this]
theorem zjW{l:List Nd}{id:Int}:0<=zfO l id↔id∈l.map Nd.id:=by
 by_cases h:∀p∈l,p.id≠id
 ·rw [zfP h];refine ⟨fun k=>by omega,fun k=>?_⟩;obtain ⟨p,hp,e⟩:=List.mem_map.1 k;exact absurd e (h p hp)
 ·unfold zfO
  cases hf:l.findIdx? (fun n=>n.id=id) with
  | some i=>
   refine ⟨fun _=>?_,fun _=>Int.natCast_nonneg i⟩;rw [List.findIdx?_eq_some_iff_getElem] at hf;obtain ⟨hi,h1,_⟩:=hf;exact List.mem_map.2 ⟨l[i],List.getElem_mem hi,by simpa using h1⟩
  | none=>rw [List.findIdx?_eq_none_iff] at hf;exact absurd (fun p hp=>by simpa using hf p hp) h
theorem ztf(l:List Nd)(id:Int):ze Tryz.prog 170 [.sl ndE l,i64 id] [] (i64 (zfO l id)) []:=by
 refine zd tok mix Tryz.func170 rfl rfl rfl ?_;refine ⟨Nat,fun i=>⟨[(5,i64 (i:Int)),(1,i64 id),(0,.sl ndE l)],[],0,20,0⟩,fun i=>i<=l.length/\∀(j:Nat) q,j < i->l[j]? =some q->q.id≠id,fun i=>l.length - i,0,⟨Nat.zero_le _,fun j q h=>by omega⟩,?_,?_⟩
 ·exact zi []
 rintro i ⟨h1,h2⟩
 intro hl0;refine Br.mk (fun g=>?_) (fun g=>?_)
 ·have g:(i:Int) < l.length:=g;refine Ob.o ?_;intro x hx;have hx:l[i]? =some x:=hx;refine Br.mk (fun h=>zm (zpX h2 hx h).symm) (fun h=>?_);refine Ar.o ?_;refine ⟨i+1,⟨oM,fun j q hj hq=>?_⟩,zi [],by dsimp only;omega⟩
  by_cases c:j=i
  ·subst c;rw [hx] at hq;cases hq;exact h
  ·exact h2 j q oM hq
 ·have g:¬(i:Int) < l.length:=g;refine zm (zfP fun p hp=>?_).symm;obtain ⟨j,hj,e⟩:=List.getElem_of_mem hp;exact h2 j p oM (by rw [← e];exact List.getElem?_eq_getElem hj)
theorem zpY{l:List Nd}{n:Nd}(h:l[0]? =some n):k8 l 0 n↔n.d=0:=by
 unfold k8;rw [show l[0 - 1]? =some n from h];exact Iff.rfl
theorem zpZ{l:List Nd}{i:Nat}{n p:Nd}(hp:l[i]? =some p):k8 l (i+1) n↔(p.k=1/\n.d=p.d+1)∨n.d<=p.d:=by
 unfold k8;rw [show l[i+1 - 1]? =some p from hp];exact Iff.rfl
theorem zp0(l:List Nd)(i:Nat)(n:Nd)(hn:l[i]? =some n)(hd:∀j p,j < i->l[j]? =some p->0<=p.d/\p.d < 8)(hl:l.length<=64):
  ze Tryz.prog 171 [.sl ndE l,i64 (i:Int)] [] (pr (k8 l i n)) []:=by
 have hi:=(List.getElem?_eq_some_iff.1 hn).1;refine zd tok mix Tryz.func171 rfl rfl rfl ?_;refine Br.mk (fun g=>?_) (fun g=>?_)
 ·have g:(i:Int)=0:=g;obtain rfl:i=0:=oM;refine Ob.o ?_;intro x hx;have hx:x=n:=Option.some.inj ((show l[0]? =some x from hx).symm.trans hn);rw [hx];exact zu (zpY hn).symm
 ·have g:¬(i:Int)=0:=g;obtain ⟨k,rfl⟩:∃k,i=k+1:=⟨i - 1,oM⟩;obtain ⟨p,hp⟩:∃p,l[k]? =some p:=⟨_,List.getElem?_eq_getElem oM⟩;have hpd:=hd k p oM hp;have hs:=zpZ (n:=n) hp;refine Dr.k ?_;refine Ar.o ?_;refine Ob.o ?_;intro x hx;have hx:x=p:=Option.some.inj ((show l[k]? =some x by rw [← hx];congr 1;omega).symm.trans hp);rw [hx];refine Br.mk (fun h1=>?_) (fun h1=>?_)
  ·refine Ob.o ?_;intro y hy;have hy:y=n:=Option.some.inj ((show l[k+1]? =some y by rw [← hy];congr 1).symm.trans hn);rw [hy];refine Ar.o ?_;refine Ob.o ?_;intro z hz;have hz:z=p:=Option.some.inj ((show l[k]? =some z by rw [← hz];congr 1;omega).symm.trans hp);rw [hz];refine Ar.o ?_;refine Br.mk (fun h2=>zH (hs.2 (.inl ⟨h1,h2⟩))) (fun h2=>?_);refine Dr.k ?_;refine Ob.o ?_;intro y hy;have hy:y=n:=Option.some.inj ((show l[k+1]? =some y by rw [← hy];congr 1).symm.trans hn);rw [hy];refine Ar.o ?_;refine Ob.o ?_;intro z hz
   have hz:z=p:=Option.some.inj ((show l[k]? =some z by rw [← hz];congr 1;omega).symm.trans hp);rw [hz];exact zu ⟨fun h=>hs.2 (.inr h),fun h=>(hs.1 h).resolve_left fun q=>h2 q.2⟩
  ·refine Dr.k ?_;refine Ob.o ?_;intro y hy;have hy:y=n:=Option.some.inj ((show l[k+1]? =some y by rw [← hy];congr 1).symm.trans hn);rw [hy];refine Ar.o ?_;refine Ob.o ?_;intro z hz;have hz:z=p:=Option.some.inj ((show l[k]? =some z by rw [← hz];congr 1;omega).symm.trans hp);rw [hz];exact zu ⟨fun h=>hs.2 (.inr h),fun h=>(hs.1 h).resolve_left fun q=>h1 q.1⟩
theorem zru(l:List Nd)(i:Nat)(n:Nd)(hn:l[i]? =some n)(ht:zfI n)(hd:∀j p,j < i->l[j]? =some p->0<=p.d/\p.d < 8)(hl:l.length<=64):
  ze Tryz.prog 120 [.sl ndE l,i64 (i:Int)] [] (i64 (zcY l i n)) []:=by
 have hi:=(List.getElem?_eq_some_iff.1 hn).1;refine zd tok mix Tryz.func120 rfl rfl rfl ?_;refine Ob.o ?_;intro x hx;have hx:x=n:=Option.some.inj ((show l[i]? =some x from hx).symm.trans hn);rw [hx];refine zb.t (zrt n ht) ?_;refine Br.mk (fun h=>zm (zjR h).symm) (fun h1=>?_);have h1:jh n=0:=Decidable.not_not.1 h1;refine Dr.k ?_;refine Ob.mk ⟨oM,fun _ _=>rfl⟩ ?_;refine Ob.o ?_;intro y hy;have hy:y=n:=Option.some.inj ((show l[i]? =some y from hy).symm.trans hn);rw [hy]
 have e:(l.drop (0:Int).toNat).take ((i:Int) - 0).toNat=l.take i:=by rw [show (0:Int).toNat=0 from rfl,List.drop_zero];congr 1
 refine zb.t (ztf ((l.drop (0:Int).toNat).take ((i:Int) - 0).toNat) n.id) ?_;rw [e];refine Br.mk (fun h=>zm (zjS h1 (zjW.1 h)).symm) (fun h2=>?_);have h2:n.id∉(l.take i).map Nd.id:=fun k=>h2 (zjW.2 k)
 refine zb.t (zp0 l i n hn hd hl) ?_;refine Br.mk (fun h=>zm (zfN h1 h2 h).symm) (fun h3=>?_);exact zm (zmc h1 h2 (Decidable.not_not.1 h3)).symm
theorem zp1(s:Sc)(ht:zbN s):ze Tryz.prog 69 [.agg (scE s)] [] (znu (zdW s)) []:=by
 refine zd tok mix Tryz.func69 rfl rfl rfl ?_;refine Br.mk (fun h=>yQ (.inl h)) (fun h1=>?_);refine Br.mk (fun h=>yQ (.inr (.inl h))) (fun h2=>?_);refine Br.mk (fun h=>yQ (.inr (.inr (.inl h)))) (fun h3=>?_);refine Br.mk (fun h=>yQ (.inr (.inr (.inr h)))) (fun h4=>?_);have hb:¬zc1 s:=fun k=>k.elim h1 fun k=>k.elim h2 fun k=>k.elim h3 h4
 intro hl0;refine Br.mk (fun h=>zg2 hb oM) (fun h5=>?_);have hn:¬64 < s.ns.length:=oM;have ht:=ht oM;refine ⟨Nat,fun i=>⟨[(4,i64 (i:Int)),(1,.loc 0 0)],[(0,.box 26 (scE s))],1,43,0⟩,fun i=>i<=s.ns.length/\∀j,j < i->jB s.ns j=0,fun i=>s.ns.length - i,0,⟨Nat.zero_le _,fun j h=>by omega⟩,?_,?_⟩
 ·exact zi [(0,some 0)]
 rintro i ⟨hi,hz⟩
 intro hl1;refine Br.mk (fun g=>?_) (fun g=>?_)
 ·have g:(i:Int) < s.ns.length:=g;obtain ⟨x,hx⟩:∃x,s.ns[i]? =some x:=⟨_,List.getElem?_eq_getElem oM⟩;have hm:=List.mem_of_getElem? hx
  have hd:∀j p,j < i->s.ns[j]? =some p->0<=p.d/\p.d < 8:=fun j p hj hp=>by
   have:=hz j hj;rw [v7 hp] at this;exact (za1 (zg1 this).1).2.1
  refine zb.t (zru s.ns i x hx (ht x hm) hd oM) ?_;refine Br.mk (fun h=>zef hb hn hx hz rfl h) (fun h6=>?_);refine Ar.o ?_;exact ⟨i+1,⟨oM,zg3 hx hz (Decidable.not_not.1 h6)⟩,zi [(0,some 0)],by dsimp only;omega⟩
 ·have g:¬(i:Int) < s.ns.length:=g;exact zmb hb hn fun j hj=>hz j oM
theorem zjX(s:Sc)(ht:zbN s):ze Tryz.prog 32 [.agg (scE s)] [] (pr (qM s)) []:=by
 refine zd tok mix Tryz.func32 rfl rfl rfl ?_;refine zb.t (zp1 s ht) ?_;exact zu Iff.rfl
theorem zp2(s:Sc)(i:Int)(ht:zbN s):ze Tryz.prog 70 [.agg (scE s),i64 i] [] (pr (inS s i)) []:=by
 refine zd tok mix Tryz.func70 rfl rfl rfl ?_;refine zb.t (zjX s ht) ?_;refine Br.mk (fun h1=>?_) (fun h1=>zc fun k=>h1 k.1);refine Br.mk (fun h2=>?_) (fun h2=>zc fun k=>h2 k.2.1);intro hl0;exact zu ⟨fun h=>⟨h1,h2,h⟩,fun k=>k.2.2⟩
theorem ztg(l:List Nd)(i:Nat)(n:Nd)(hn:l[i]? =some n)(hd:∀n∈l,0<=n.d/\n.d < 8)(hl:l.length<=64):ze Tryz.prog 71 [.sl ndE l,i64 (i:Int)] [] (i64 (j8 (zL l) i)) []:=by
 have hi:=(List.getElem?_eq_some_iff.1 hn).1;have eg:(zL l).getD i 0=n.d:=by rw [List.getD_eq_getElem?_getD,yB hn];rfl
 have ep:j8 (zL l) i=yo (zL l) (n.d - 1) i:=by unfold j8;rw [eg]
 have hnd:=hd n (List.mem_of_getElem? hn);refine zd tok mix Tryz.func71 rfl rfl rfl ?_;refine Ar.o ?_;refine ⟨Nat,fun m=>⟨[(5,i64 ((m:Int) - 1)),(1,i64 (i:Int)),(0,.sl ndE l)],[],0,25,0⟩,fun m=>m<=i/\yo (zL l) (n.d - 1) m=j8 (zL l) i,fun m=>m,i,⟨Nat.le_refl _,ep.symm⟩,?_,?_⟩
 ·exact zi []
 rintro m ⟨hm,he⟩
 refine Br.mk (fun g=>?_) (fun g=>?_)
 ·have g:0<=(m:Int) - 1:=g;obtain ⟨k,rfl⟩:∃k,m=k+1:=⟨m - 1,oM⟩;refine Dr.k ?_;refine Ob.o ?_;intro x hx;have hx:l[k]? =some x:=by rw [← hx];congr 1;omega
  refine Ob.o ?_;intro y hy;have hy:y=n:=Option.some.inj ((show l[i]? =some y from hy).symm.trans hn);rw [hy];refine Ar.o ?_;have hk:=yB hx;refine Br.mk (fun h=>?_) (fun h=>?_)
  ·refine zm ?_;rw [← he];unfold yo;rw [hk,if_pos (by rw [h])];omega
  ·refine Ar.o ?_;refine ⟨k,⟨oM,?_⟩,kr [] ⟨congrArg (fun q=>some (i64 q)) oM,rfl,rfl,trivial⟩ trivial,by dsimp only;omega⟩;rw [← he]
   conv=>rhs;unfold yo
   rw [hk,if_neg (fun q=>h (Option.some.inj q))]
 ·have g:¬0<=(m:Int) - 1:=g;obtain rfl:m=0:=oM;exact zm he
def zgc(s:Sc)(i:Int):List Int:=if inS s i then ((kM (zL s.ns) i).reverse).map (fun k:Nat=>(k:Int)) else []
theorem zp3{c:List Nat}{m d a:Nat}(hl:c.length=d+1)(hm:m<=d)(ha:c[d - m]? =some a):c.reverse.take (m+1)=c.reverse.take m++[a]:=by
 have:c.reverse[m]? =some a:=by
  rw [List.getElem?_reverse oM,← ha];congr 1;omega
 rw [List.take_add_one,this];rfl
def v9(l:List Nat):List Int:=l.map (fun k:Nat=>(k:Int))
theorem zrv(s:Sc)(i:Int)(ht:zbN s):ze Tryz.prog 33 [.agg (scE s),i64 i] [] (.own 0) [(0,.arr 3 uJ 1 (zgc s i))]:=by
 refine kU tok mix Tryz.func33 rfl rfl rfl ?_;refine ⟨Int,uJ,[],rfl,Ob.o2 ?_⟩;refine zb.t (zp2 s i ht) ?_;refine Br.mk (fun h=>⟨some 1,.own 1 rfl,congrArg (fun q=>some (Mem.arr 3 uJ 1 q)) (show []=zgc s i from (if_neg h).symm),fun _ _=>rfl⟩) (fun h=>?_);have h:inS s i:=Decidable.not_not.1 h;obtain ⟨n,hn⟩:=za4 h;obtain ⟨i,rfl⟩:∃k:Nat,i=(k:Int):=⟨i.toNat,by have:=h.2.1;omega⟩;have hn:s.ns[i]? =some n:=hn;have hdp:=zb6 h.1;have hl:=uH h.1;have hs:=za2 h.1;have hnd:=hdp n (List.mem_of_getElem? hn)
 obtain ⟨d,hd⟩:∃d:Nat,n.d=(d:Int):=⟨n.d.toNat,oM⟩;have hD:(zL s.ns)[i]? =some (d:Int):=by rw [yB hn,hd]
 have hlen:=zdr hs hD;have ea:zgc s i=v9 ((kM (zL s.ns) i).reverse):=if_pos h;have hil:=(List.getElem?_eq_some_iff.1 hn).1
 refine ⟨Nat,fun m=>⟨[(6,i64 (m:Int)),(5,.own 1),(2,.loc 0 0),(1,i64 (i:Int))],[(1,.arr 3 uJ 1 (v9 ((kM (zL s.ns) i).reverse.take m))),(0,.box 26 (scE s))],2,42,0⟩,
  fun m=>m<=d+1,fun m=>d+1 - m,0,Nat.zero_le _,?_,?_⟩
 ·exact zi [(0,some 0),(1,some 1)]
 intro m hm;have hm:m<=d+1:=hm;refine Ob.o ?_;intro x hx;have hx:x=n:=Option.some.inj ((show s.ns[i]? =some x from hx).symm.trans hn);rw [hx];refine Br.mk (fun g=>?_) (fun g=>?_)
 ·have g:(m:Int)<=n.d:=g;rw [hd] at g;have c0:(kM (zL s.ns) i)[0]? =some i:=by rw [qR];rfl
  refine ⟨Nat×Nat,fun z=>⟨[(7,i64 (z.2:Int)),(6,i64 (m:Int)),(5,.own 1),(2,.loc 0 0),(1,i64 (i:Int))],[(1,.arr 3 uJ 1 (v9 ((kM (zL s.ns) i).reverse.take m))),(0,.box 26 (scE s))],2,42,0⟩,
   fun z=>z.1<=d - m/\(kM (zL s.ns) i)[z.1]? =some z.2,fun z=>d - z.1,(0,i),⟨Nat.zero_le _,c0⟩,?_,?_⟩
  ·exact zi [(0,some 0),(1,some 1)]
  rintro ⟨k,a⟩ ⟨hk,hc⟩
  have hk:k<=d - m:=hk;have hc:(kM (zL s.ns) i)[k]? =some a:=hc;have hda:=zdq hs hD hc;obtain ⟨y,hy,hyd⟩:=yC hda;have hal:=(List.getElem?_eq_some_iff.1 hy).1;dsimp only;refine Ob.o ?_;intro w hw;have hw:w=y:=Option.some.inj ((show s.ns[a]? =some w from hw).symm.trans hy);rw [hw];refine Br.mk (fun q=>?_) (fun q=>?_)
  ·have q:(m:Int) < y.d:=q;rw [hyd] at q;refine zb.t (ztg s.ns a y hy hdp hl) ?_;obtain ⟨j,hj,_,_⟩:=(zc0 hs hda).2 oM;refine ⟨(k+1,j),⟨by dsimp only;omega,zfM hc hj⟩,kr [(0,some 0),(1,some 1)] ⟨congrArg (fun q=>some (i64 q)) hj,rfl,rfl,rfl,rfl,trivial⟩ ⟨rfl,rfl,trivial⟩,by dsimp only;omega⟩
  ·have q:¬(m:Int) < y.d:=q;rw [hyd] at q;obtain rfl:k=d - m:=oM;refine ⟨Int,uJ,[(a:Int)],rfl,Ob.o11 ?_⟩
   have hlen0:(v9 ((kM (zL s.ns) i).reverse.take m)).length<=64:=by
    unfold v9;rw [List.length_map,List.length_take,List.length_reverse,hlen];omega
   refine ⟨[(a:Int)],rfl,Ob.mk ⟨by show (((v9 ((kM (zL s.ns) i).reverse.take m)).length:Int)+1)*8<=_;omega,by rw [List.length_singleton];omega,dC,fun x hx=>by rw [List.mem_singleton.1 hx];rfl⟩ ?_⟩;refine Ar.o ?_
   have en:v9 ((kM (zL s.ns) i).reverse.take m)++[(a:Int)]=v9 ((kM (zL s.ns) i).reverse.take (m+1)):=by
    rw [zp3 hlen oM hc];unfold v9;rw [List.map_append];rfl
   exact ⟨m+1,by show m+1<=d+1;omega,k9 [(0,some 0),(1,some 3)] ⟨congrArg (fun q=>some (Mem.arr 3 uJ 1 q)) en,rfl,trivial⟩,by show d+1 - (m+1) < d+1 - m;omega⟩
 ·have g:¬(m:Int)<=n.d:=g;rw [hd] at g;have e:(kM (zL s.ns) i).reverse.take m=(kM (zL s.ns) i).reverse:=List.take_of_length_le (by rw [List.length_reverse,hlen];omega);exact ⟨some 1,.own 1 rfl,congrArg (fun q=>some (Mem.arr 3 uJ 1 q)) (by rw [ea,e]),fun _ _=>rfl⟩
theorem zth(s:Sc)(i:Int)(ht:zbN s):ze Tryz.prog 33 [.agg (scE s),i64 i] [] (.sl uJ (zgc s i)) []:=(zrv s i ht).plain rfl
def zsc(n:Nd):Prop:=n.t.le 100/\zfI n/\n.path.length<=300/\n.clip.length<=300
def jq(s:Sc):Prop:=s.ns.length<=64->∀n∈s.ns,zsc n
theorem jq.tame{s:Sc}(h:jq s):zbN s:=fun hl n hn=>(h hl n hn).2.1
theorem zti{s:Sc}(h:jq s)(hv:qM s)(k:Nat):(tAt s.ns k).le 100:=by
 unfold tAt
 cases hk:s.ns[k]? with
 | none=>exact zhP.up dC
 | some n=>exact (h (uH hv) n (List.mem_of_getElem? hk)).1
theorem zk7{s:Sc}(h:jq s)(hv:qM s)(i:Int):∀t∈trs s.ns i,t.le 100:=fun t ht=>by
 obtain ⟨k,_,rfl⟩:=List.mem_map.1 ht;exact zti h hv k
theorem zid{s:Sc}(hv:qM s){i:Nat}(hi:i < s.ns.length):(trs s.ns i).length<=8:=by
 have hn:s.ns[i]? =some s.ns[i]:=List.getElem?_eq_getElem hi;have hd:=zb6 hv s.ns[i] (List.getElem_mem hi);unfold trs;rw [List.length_map,zdr (d:=s.ns[i].d.toNat) (za2 hv) (by rw [yB hn];congr 1;omega)];omega
theorem zp4{l:List AF}:(yi l).1.le 100:=by
 unfold yi
 split
 ·rename_i h;have:=zfz (l:=l) (i:=l.length) (Nat.le_refl _) fun k hk=>h.2 k hk
  rw [List.take_length] at this;exact this.up dC
 ·exact qL _
theorem jL(s:Sc)(i:Int):(zF s i).1.le 100:=by
 unfold zF
 split
 ·exact qL _
 split
 ·exact qL _
 ·exact zp4
def zjY(r:AF×Int):SV:=.tup [.agg (afE r.1),i64 r.2]
theorem ju{s:Sc}{i:Int}{e:Int}(h:zF s i=(kw,e)):LE (.tup [.agg jb,i64 e]) (zjY (zF s i)):=by
 rw [h];exact zS uf .refl
theorem zfQ{s:Sc}{i:Int}(h:qM s)(h0:0<=i)(h1:i < s.ns.length):zF s i=yi (trs s.ns i):=by
 unfold zF;rw [if_neg (fun k=>k h),if_neg oM]
theorem zmg{s:Sc}{i:Nat}(h:qM s)(hi:i < s.ns.length):parS s i=j8 (zL s.ns) i:=by
 unfold parS;rw [if_pos ⟨h,oM,oM⟩];rfl
def scO(s:Sc)(k:Nat):List SV:=[i64 s.w,i64 s.h,u8 s.bg.r,u8 s.bg.g,u8 s.bg.b,u8 s.bg.a,.own k]
abbrev jM(l:List Nd):Mem:=.arr 66 ndE 47 l
theorem zeg(s:Sc)(i:Int)(ht:jq s):ze Tryz.prog 9 [.agg (scE s),i64 i] [] (zjY (zF s i)) []:=by
 refine zd tok mix Tryz.func9 rfl rfl rfl ?_;refine zb.t (zib s ht.tame) ?_;refine Br.mk (fun h=>ju (if_pos h)) (fun h=>?_);have hv:qM s:=Decidable.not_not.1 h;refine Br.mk (fun h1=>ju ((if_neg h).trans (if_pos (.inl h1)))) (fun h1=>?_);intro hl0;refine Br.mk (fun h2=>ju ((if_neg h).trans (if_pos (.inr h2)))) (fun h2=>?_);have e0:=zfQ hv (i:=i) oM oM;have hl64:=uH hv;have hle:=zk7 ht hv i
 have hlen:(trs s.ns i).length<=8:=by
  obtain ⟨k,rfl⟩:∃k:Nat,i=(k:Int):=⟨i.toNat,oM⟩;exact zid hv oM
 refine ⟨List AF×Int,fun z=>⟨[(6,.own 2),(4,.loc 1 0),(2,.loc 0 0),(1,i64 z.2)],[(2,.arr 35 afE 24 z.1),(1,.box 35 jb),(0,.box 26 (scE s))],3,39,0⟩,
  fun z=>z.1++trs s.ns z.2=trs s.ns i/\ -1<=z.2/\z.2 < s.ns.length,fun z=>(z.2+1).toNat,([],i),⟨rfl,by dsimp only;omega,by dsimp only;omega⟩,?_,?_⟩
 ·exact zi [(0,some 0),(1,some 1),(2,none)]
 rintro ⟨p,j⟩ ⟨hp,hj1,hj2⟩
 have hp:p++trs s.ns j=trs s.ns i:=hp;have hj1: -1<=j:=hj1;have hj2:j < s.ns.length:=hj2;have hpl:p.length<=8:=by rw [← hp,List.length_append] at hlen;omega
 refine Br.mk (fun g=>?_) (fun g=>?_)
 ·have g:0<=j:=g;obtain ⟨k,rfl⟩:∃k:Nat,j=(k:Int):=⟨j.toNat,oM⟩;refine Ob.o ?_;intro x hx;have hx:s.ns[k]? =some x:=hx;refine ⟨AF,afE,[x.t],rfl,Ob.mk ⟨rfl,dC,dC,dC,fun y hy=>by rw [List.mem_singleton.1 hy];exact ⟨rfl,rfl,rfl⟩⟩ ?_⟩;refine ⟨[x.t],rfl,Ob.mk ⟨by show ((p.length:Int)+1)*_<=_;dsimp only;omega,by show p.length+1<=_;omega,dC,fun y hy=>by rw [List.mem_singleton.1 hy];rfl⟩ ?_⟩;refine zb.t (zjT s k ht.tame) ?_;have ep:=zmg hv (i:=k) oM;have hpn:=zee (zL s.ns) k
  refine ⟨(p++[x.t],j8 (zL s.ns) k),⟨by dsimp only;rw [List.append_assoc,← hp,zjO hx];rfl,hpn.1,by dsimp only;omega⟩,kr [(0,some 0),(1,some 1),(2,some 4)] ⟨rfl,rfl,rfl,congrArg (fun q=>some (i64 q)) ep,trivial⟩ ⟨rfl,rfl,rfl,trivial⟩,by dsimp only;omega⟩
 ·have g:¬0<=j:=g;have e1:p=trs s.ns i:=by rw [← hp,zl9 oM,List.append_nil]
  subst e1;refine zb.see 2 _ (zfA (trs s.ns i) hle) rfl rfl rfl ?_;rw [e0];exact zS .refl .refl
theorem zc2(s:Sc)(i:Int)(ht:jq s):ze Tryz.prog 9 [.agg (scO s 0),i64 i] [(0,jM s.ns)] (zjY (zF s i)) [(0,jM s.ns)]:=by
 refine uc tok mix Tryz.func9 rfl rfl rfl (fun _ _=>rfl) rfl ?_;refine zb.t (zib s ht.tame) ?_;refine Br.mk (fun h=>⟨rfl,ju (if_pos h)⟩) (fun h=>?_);have hv:qM s:=Decidable.not_not.1 h;refine Br.mk (fun h1=>⟨rfl,ju ((if_neg h).trans (if_pos (.inl h1)))⟩) (fun h1=>?_);intro hl0;refine Br.mk (fun h2=>⟨rfl,ju ((if_neg h).trans (if_pos (.inr h2)))⟩) (fun h2=>?_);have e0:=zfQ hv (i:=i) oM oM;have hl64:=uH hv;have hle:=zk7 ht hv i
 have hlen:(trs s.ns i).length<=8:=by
  obtain ⟨k,rfl⟩:∃k:Nat,i=(k:Int):=⟨i.toNat,oM⟩;exact zid hv oM
 refine ⟨List AF×Int,fun z=>⟨[(6,.own 3),(4,.loc 2 0),(2,.loc 1 0),(1,i64 z.2)],[(3,.arr 35 afE 24 z.1),(2,.box 35 jb),(1,.box 26 (scO s 0)),(0,jM s.ns)],4,39,1⟩,
  fun z=>z.1++trs s.ns z.2=trs s.ns i/\ -1<=z.2/\z.2 < s.ns.length,fun z=>(z.2+1).toNat,([],i),⟨rfl,by dsimp only;omega,by dsimp only;omega⟩,?_,?_⟩
 ·exact zi [(0,some 0),(1,some 1),(2,some 2),(3,none)]
 rintro ⟨p,j⟩ ⟨hp,hj1,hj2⟩
 have hp:p++trs s.ns j=trs s.ns i:=hp;have hj1: -1<=j:=hj1;have hj2:j < s.ns.length:=hj2;have hpl:p.length<=8:=by rw [← hp,List.length_append] at hlen;omega
 refine Br.mk (fun g=>?_) (fun g=>?_)
 ·have g:0<=j:=g;obtain ⟨k,rfl⟩:∃k:Nat,j=(k:Int):=⟨j.toNat,oM⟩;refine Ob.o ?_;refine Ob.o ?_;intro x hx;have hx:s.ns[k]? =some x:=hx;refine ⟨AF,afE,[x.t],rfl,Ob.mk ⟨rfl,dC,dC,dC,fun y hy=>by rw [List.mem_singleton.1 hy];exact ⟨rfl,rfl,rfl⟩⟩ ?_⟩;refine ⟨[x.t],rfl,Ob.mk ⟨by show ((p.length:Int)+1)*_<=_;dsimp only;omega,by show p.length+1<=_;omega,dC,fun y hy=>by rw [List.mem_singleton.1 hy];rfl⟩ ?_⟩;refine zb.t (zjT s k ht.tame) ?_;have ep:=zmg hv (i:=k) oM;have hpn:=zee (zL s.ns) k
  refine ⟨(p++[x.t],j8 (zL s.ns) k),⟨by dsimp only;rw [List.append_assoc,← hp,zjO hx];rfl,hpn.1,by dsimp only;omega⟩,kr [(0,some 0),(1,some 1),(2,some 2),(3,some 5)] ⟨rfl,rfl,rfl,congrArg (fun q=>some (i64 q)) ep,trivial⟩ ⟨rfl,rfl,rfl,rfl,trivial⟩,by dsimp only;omega⟩
 ·have g:¬0<=j:=g;have e1:p=trs s.ns i:=by rw [← hp,zl9 oM,List.append_nil]
  subst e1;refine zb.see 3 _ (zfA (trs s.ns i) hle) rfl rfl rfl ?_;rw [e0];exact ⟨rfl,zS .refl .refl⟩
theorem ztj{s:Sc}{i m:Nat}{a:Nat}(h:inS s i)(hm:m < (kM (zL s.ns) i).length)(ha:(kM (zL s.ns) i)[(kM (zL s.ns) i).length - 1 - m]? =some a):(zgc s i)[m]? =some (a:Int):=by
 have e:zgc s i=((kM (zL s.ns) i).reverse).map (fun k:Nat=>(k:Int)):=if_pos h;rw [e,List.getElem?_map,List.getElem?_reverse hm,ha];rfl
theorem zrw{s:Sc}{i:Nat}(h:inS s i):(zgc s i).length=(kM (zL s.ns) i).length:=by
 have e:zgc s i=((kM (zL s.ns) i).reverse).map (fun k:Nat=>(k:Int)):=if_pos h;rw [e,List.length_map,List.length_reverse]
theorem zrx(s:Sc)(i:Int)(ht:jq s):ze Tryz.prog 10 [.agg (scE s),i64 i] [] (zjY (zF s i)) []:=by
 refine zd tok mix Tryz.func10 rfl rfl rfl ?_;refine zb.t (zjX s ht.tame) ?_;refine Br.mk (fun h=>ju (if_pos h)) (fun h=>?_);have hv:qM s:=Decidable.not_not.1 h;refine Br.mk (fun h1=>ju ((if_neg h).trans (if_pos (.inl h1)))) (fun h1=>?_);intro hl0;refine Br.mk (fun h2=>ju ((if_neg h).trans (if_pos (.inr h2)))) (fun h2=>?_);have e0:=zfQ hv (i:=i) oM oM;have hl64:=uH hv;have hle:=zk7 ht hv i;obtain ⟨i,rfl⟩:∃k:Nat,i=(k:Int):=⟨i.toNat,oM⟩;have hi:i < s.ns.length:=oM;have hin:inS s i:=⟨hv,oM,oM⟩;have hlen:=zid hv hi
 have hcl:(trs s.ns i).length=(kM (zL s.ns) i).length:=by unfold trs;rw [List.length_map]
 have hal:=zrw hin;refine zb.t (zth s i ht.tame) ?_;intro hl1;refine Ar.o ?_
 refine ⟨Nat,fun m=>⟨[(8,i64 ((m:Int) - 1)),(7,.own 2),(6,.sl uJ (zgc s i)),(4,.loc 1 0),(2,.loc 0 0)],[(2,.arr 35 afE 24 ((trs s.ns i).take ((trs s.ns i).length - m))),(1,.box 35 jb),(0,.box 26 (scE s))],3,49,0⟩,
  fun m=>m<=(trs s.ns i).length,fun m=>m,(trs s.ns i).length,Nat.le_refl _,?_,?_⟩
 ·exact kr [(0,some 0),(1,some 1),(2,none)] ⟨congrArg (fun q=>some (i64 q)) oM,rfl,rfl,rfl,rfl,trivial⟩ ⟨by show Nat.beq (List.take _ _).length 0=true;rw [Nat.sub_self];rfl,rfl,rfl,trivial⟩
 intro m hm;have hm:m<=(trs s.ns i).length:=hm;refine Br.mk (fun g=>?_) (fun g=>?_)
 ·have g:0<=(m:Int) - 1:=g;obtain ⟨k,rfl⟩:∃k,m=k+1:=⟨m - 1,oM⟩;obtain ⟨a,ha⟩:∃a,(kM (zL s.ns) i)[(kM (zL s.ns) i).length - 1 - k]? =some a:=⟨_,List.getElem?_eq_getElem oM⟩
  have hta:(trs s.ns i)[(trs s.ns i).length - (k+1)]? =some (tAt s.ns a):=by
   rw [hcl,show (kM (zL s.ns) i).length - (k+1)=(kM (zL s.ns) i).length - 1 - k by omega];unfold trs;rw [List.getElem?_map,ha];rfl
  have han:=ztj hin oM ha;have hd0:(zL s.ns)[i]? =some (s.ns[i]).d:=yB (List.getElem?_eq_getElem hi);obtain ⟨y,hy,_⟩:=yC (zdq (za2 hv) hd0 ha);have hya:=(List.getElem?_eq_some_iff.1 hy).1;refine Dr.k ?_;refine Ob.o ?_;intro x hx;have hx:x=(a:Int):=Option.some.inj ((show (zgc s i)[k]? =some x by rw [← hx];congr 1;omega).symm.trans han);rw [hx];refine Ob.o ?_;intro z hz;have hz:z=y:=Option.some.inj ((show s.ns[a]? =some z from hz).symm.trans hy);rw [hz];have ht':tAt s.ns a=y.t:=zjN hy
  refine ⟨AF,afE,[y.t],rfl,Ob.mk ⟨rfl,dC,dC,dC,fun q hq=>by rw [List.mem_singleton.1 hq];exact ⟨rfl,rfl,rfl⟩⟩ ?_⟩;have hpl:((trs s.ns i).take ((trs s.ns i).length - (k+1))).length<=8:=by rw [List.length_take];omega
  refine ⟨[y.t],rfl,Ob.mk ⟨by show ((((trs s.ns i).take ((trs s.ns i).length - (k+1))).length:Int)+1)*_<=_;dsimp only;omega,by show ((trs s.ns i).take ((trs s.ns i).length - (k+1))).length+1<=_;omega,dC,fun q hq=>by rw [List.mem_singleton.1 hq];rfl⟩ ?_⟩;refine Ar.o ?_
  have en:(trs s.ns i).take ((trs s.ns i).length - (k+1))++[y.t]=(trs s.ns i).take ((trs s.ns i).length - k):=by
   rw [show (trs s.ns i).length - k=(trs s.ns i).length - (k+1)+1 by omega,List.take_add_one,hta,ht'];rfl
  exact ⟨k,by show k<=_;omega,kr [(0,some 0),(1,some 1),(2,some 4)] ⟨congrArg (fun q=>some (i64 q)) oM,rfl,rfl,rfl,rfl,trivial⟩ ⟨congrArg (fun q=>some (Mem.arr 35 afE 24 q)) en,rfl,rfl,trivial⟩,by show k < k+1;omega⟩
 ·have g:¬0<=(m:Int) - 1:=g;obtain rfl:m=0:=oM;have e1:(trs s.ns i).take ((trs s.ns i).length - 0)=trs s.ns i:=by rw [Nat.sub_zero,List.take_length]
  refine zb.see 2 _ (zh4 ((trs s.ns i).take ((trs s.ns i).length - 0)) (by rw [e1];exact hle)) rfl rfl rfl ?_;rw [e0,e1];exact zS .refl .refl
theorem znv{l:List AF}:(yi l).2=0∨(yi l).2=5:=by
 unfold yi;split
 ·exact .inl rfl
 ·exact .inr rfl
theorem uh{s:Sc}{i:Int}:inS s i↔¬((zF s i).2=18∨(zF s i).2=8):=by
 unfold zF
 by_cases h:qM s
 ·rw [if_neg (fun k=>k h)]
  by_cases h1:i < 0∨s.ns.length<=i
  ·rw [if_pos h1];exact ⟨fun k=>by have:=k.2;omega,fun k=>absurd (.inr rfl) k⟩
  ·rw [if_neg h1];refine ⟨fun _=>?_,fun _=>⟨h,oM,oM⟩⟩
   rcases znv (l:=trs s.ns i) with e | e <;> rw [e] <;> decide
 ·rw [if_pos h];exact ⟨fun k=>absurd k.1 h,fun k=>absurd (.inl rfl) k⟩
theorem zg5{s:Sc}{i:Int}(h:¬inS s i):(zF s i).1=kw/\(zF s i).2≠0/\zY s i=zNd:=by
 refine ⟨?_,?_,if_neg h⟩
 all_goals
  unfold zF
  by_cases h0:qM s
  ·rw [if_neg (fun k=>k h0),if_pos (by
    rcases Int.lt_or_le i 0 with k | k
    ·exact .inl k
    ·exact .inr (Int.not_lt.1 fun q=>h ⟨h0,k,q⟩))]
   try (first | rfl | exact dC)
  ·rw [if_pos h0]
   try (first | rfl | exact dC)
theorem zie{s:Sc}{i:Int}(h:inS s i){n:Nd}(hn:s.ns[i.toNat]? =some n):zY s i=n:=by
 unfold zY;rw [if_pos h,hn];rfl
theorem zdt{s:Sc}(ht:jq s)(i:Int):(zY s i).path.length<=300/\(zY s i).clip.length<=300:=by
 by_cases h:inS s i
 ·obtain ⟨n,hn⟩:=za4 h;rw [zie h hn];have:=ht (uH h.1) n (List.mem_of_getElem? hn);exact this.2.2
 ·rw [(zg5 h).2.2];exact ⟨Nat.zero_le _,Nat.zero_le _⟩
def zgd(s:Sc)(i:Int):List SV:=afE (zF s i).1++(pr ((zF s i).2=0)::ndE (zY s i))
def z47:List SV:=i64 0::i64 0::i64 0::(jb++[.val (.slice none 0 0),i64 0,u8 0,i64 0,bl false,bl false,.val (.slice none 0 0),i64 0,.val (.slice none 0 0),
 i64 0,i64 0,i64 0,i64 0,.val (.slice none 0 0),i64 0,.val (.slice none 0 0),i64 0,i64 0,.val (.slice none 0 0),i64 0])
theorem zfR:LEs jb (afE kw):=show LEs (z4++(z4++(z4++(z4++(z4++z4))))) (afE kw) from LEs.append qh (LEs.append qh (LEs.append qh (LEs.append qh (LEs.append qh qh))))
theorem zry:LEs z47 (ndE zNd):=
 .cons .refl (.cons .refl (.cons .refl (LEs.append zfR (.cons zI (.cons .refl (.cons .refl (.cons .refl (.cons (zc dC) (.cons (zc dC) (.cons zI (.cons .refl (.cons zI
  (.cons .refl (.cons .refl (.cons .refl (.cons .refl (.cons zI (.cons .refl (.cons zI (.cons .refl (.cons .refl (.cons zI (.cons .refl .nil)))))))))))))))))))))))
theorem zc3{s:Sc}{i:Int}(h:¬inS s i):LE (.agg (jb++(bl false::z47))) (.agg (zgd s i)):=by
 obtain ⟨h1,h2,h3⟩:=zg5 h;unfold zgd;rw [h1,h3];exact zuI (LEs.append zfR (.cons (zc h2) zry))
theorem zif(s:Sc)(i:Int)(ht:jq s):ze Tryz.prog 37 [.agg (scE s),i64 i] [] (.agg (zgd s i)) []:=by
 refine zd tok mix Tryz.func37 rfl rfl rfl ?_;refine zb.t (zeg s i ht) ?_;refine Br.mk (fun h=>zc3 fun k=>uh.1 k (.inl h)) (fun h1=>?_);refine Br.mk (fun h=>zc3 fun k=>uh.1 k (.inr h)) (fun h2=>?_);have hin:inS s i:=uh.2 fun k=>k.elim h1 h2
 obtain ⟨n,hn⟩:=za4 hin;have hi:=(List.getElem?_eq_some_iff.1 hn).1;have hi0:=hin.2;refine Dr.k ?_;refine Ob.o ?_;intro x hx;have hx:x=n:=Option.some.inj ((show s.ns[i.toNat]? =some x from hx).symm.trans hn);rw [hx];have e:zgd s i=afE (zF s i).1++(pr ((zF s i).2=0)::ndE n):=by unfold zgd;rw [zie hin hn]
 rw [e];exact .refl
theorem zmh(s:Sc)(i:Int)(ht:jq s):ze Tryz.prog 37 [.agg (scO s 0),i64 i] [(0,jM s.ns)] (.agg (zgd s i)) [(0,jM s.ns)]:=by
 refine uc tok mix Tryz.func37 rfl rfl rfl (fun _ _=>rfl) rfl ?_;refine zb.give [0] 0 [.agg (scO s 0),i64 i] [(0,jM s.ns)] [(0,jM s.ns)] (zjY (zF s i)) (zc2 s i ht) LEs.refl rfl rfl rfl ⟨⟨_,rfl,rfl,trivial⟩,trivial⟩ rfl ⟨⟨rfl,trivial⟩,trivial⟩ ?_;refine Br.mk (fun h=>⟨rfl,zc3 fun k=>uh.1 k (.inl h)⟩) (fun h1=>?_);refine Br.mk (fun h=>⟨rfl,zc3 fun k=>uh.1 k (.inr h)⟩) (fun h2=>?_);have hin:inS s i:=uh.2 fun k=>k.elim h1 h2
 obtain ⟨n,hn⟩:=za4 hin;have hi:=(List.getElem?_eq_some_iff.1 hn).1;have hi0:=hin.2;refine Dr.k ?_;refine Ob.o ?_;refine Ob.o ?_;intro x hx;have hx:x=n:=Option.some.inj ((show s.ns[i.toNat]? =some x from hx).symm.trans hn);rw [hx];have e:zgd s i=afE (zF s i).1++(pr ((zF s i).2=0)::ndE n):=by unfold zgd;rw [zie hin hn]
 rw [e];exact ⟨rfl,.refl⟩
theorem zig(r:AF×Int)(l:List Sg)(ht:r.1.le 100)(hl:l.length<=300):ze Tryz.prog 38 [.agg (afE r.1++[pr (r.2=0)]),.sl sgE l] [] (.sl qu (za3 r l)) []:=by
 refine zd tok mix Tryz.func38 rfl rfl rfl ?_;refine Br.mk (fun h=>by rw [show za3 r l=[] from if_pos h];exact zI) (fun h=>?_);have e:za3 r l=(zbK l r.1 32).1:=if_neg h;refine zb.t (zrc l r.1 32 (ht.up dC) hl) ?_;rw [e];exact Br.mk (fun k=>by rw [zpT k];exact zI) (fun _=>.refl)
theorem zrz(s:Sc)(i:Int)(ht:jq s):ze Tryz.prog 25 [.agg (scE s),i64 i] [] (.sl qu (yP s i)) []:=by
 refine zd tok mix Tryz.func25 rfl rfl rfl ?_;refine zb.t (zif s i ht) ?_;refine Br.mk (fun h=>by rw [show yP s i=[] from if_pos (.inl h)];exact zI) (fun h1=>?_);intro hl0;refine Br.mk (fun h=>by rw [show yP s i=[] from if_pos (.inr oM)];exact zI) (fun h2=>?_);refine zb.t (zig (zF s i) (zY s i).path (jL s i) (zdt ht i).1) ?_;rw [show yP s i=za3 (zF s i) (zY s i).path from if_neg fun k=>k.elim h1 fun q=>h2 oM];exact .refl
theorem zp5(s:Sc)(i:Int)(ht:jq s):ze Tryz.prog 25 [.agg (scO s 0),i64 i] [(0,jM s.ns)] (.sl qu (yP s i)) [(0,jM s.ns)]:=by
 refine uc tok mix Tryz.func25 rfl rfl rfl (fun _ _=>rfl) rfl ?_;refine zb.give [0] 0 [.agg (scO s 0),i64 i] [(0,jM s.ns)] [(0,jM s.ns)] (.agg (zgd s i)) (zmh s i ht) LEs.refl rfl rfl rfl ⟨⟨_,rfl,rfl,trivial⟩,trivial⟩ rfl ⟨⟨rfl,trivial⟩,trivial⟩ ?_;refine Br.mk (fun h=>by rw [show yP s i=[] from if_pos (.inl h)];exact ⟨rfl,zI⟩) (fun h1=>?_);intro hl0;refine Br.mk (fun h=>by rw [show yP s i=[] from if_pos (.inr oM)];exact ⟨rfl,zI⟩) (fun h2=>?_);refine zb.t (zig (zF s i) (zY s i).path (jL s i) (zdt ht i).1) ?_
 rw [show yP s i=za3 (zF s i) (zY s i).path from if_neg fun k=>k.elim h1 fun q=>h2 oM];exact ⟨rfl,.refl⟩
theorem uX(a b c d:Int):(y3 a b c d).length<=300:=by
 unfold y3;split
 ·exact (by decide:5<=300)
 ·exact Nat.zero_le _
theorem ztk(s:Sc)(i:Int)(ht:jq s):ze Tryz.prog 28 [.agg (scE s),i64 i] [] (.sl qu (imgG s i)) []:=by
 refine zd tok mix Tryz.func28 rfl rfl rfl ?_;refine zb.t (zif s i ht) ?_;refine Br.mk (fun h=>by rw [show imgG s i=[] from if_pos h];exact zI) (fun h=>?_);refine Dr.k ?_;refine zb.t (zkK 0 0 (zY s i).im.w (zY s i).im.h) ?_;refine zb.t (zig (zF s i) (y3 0 0 (zY s i).im.w (zY s i).im.h) (jL s i) (uX _ _ _ _)) ?_;rw [show imgG s i=za3 (zF s i) (y3 0 0 (zY s i).im.w (zY s i).im.h) from if_neg h];exact .refl
def zfS(s:Sc)(i:Int):SV:=.tup [.sl qu (zjP s i),pr (0 < (zY s i).clip.length)]
theorem zrA{s:Sc}{i:Int}(h:(zY s i).clip.length=0):LE (.tup [.val (.slice none 0 0),bl false]) (zfS s i):=by
 unfold zfS;rw [show zjP s i=[] from if_pos h];exact zS zI (zc oM)
theorem zp6{s:Sc}{i:Int}{v:SV}(h:(zY s i).clip.length≠0)(hv:LE v (.sl qu (za3 (zF s i) (zY s i).clip))):LE (.tup [v,bl true]) (zfS s i):=by
 unfold zfS;rw [show zjP s i=za3 (zF s i) (zY s i).clip from if_neg h];exact zS hv (zH oM)
theorem zuw(s:Sc)(i:Int)(ht:jq s):ze Tryz.prog 12 [.agg (scE s),i64 i] [] (zfS s i) []:=by
 refine zd tok mix Tryz.func12 rfl rfl rfl ?_;refine zb.t (zif s i ht) ?_;intro hl0;refine Br.mk (fun h=>zrA oM) (fun h1=>?_);refine zb.t (zig (zF s i) (zY s i).clip (jL s i) (zdt ht i).2) ?_;exact zp6 oM .refl
theorem zjZ(s:Sc)(i:Int)(ht:jq s):ze Tryz.prog 12 [.agg (scO s 0),i64 i] [(0,jM s.ns)] (zfS s i) [(0,jM s.ns)]:=by
 refine uc tok mix Tryz.func12 rfl rfl rfl (fun _ _=>rfl) rfl ?_;refine zb.give [0] 0 [.agg (scO s 0),i64 i] [(0,jM s.ns)] [(0,jM s.ns)] (.agg (zgd s i)) (zmh s i ht) LEs.refl rfl rfl rfl ⟨⟨_,rfl,rfl,trivial⟩,trivial⟩ rfl ⟨⟨rfl,trivial⟩,trivial⟩ ?_;intro hl0;refine Br.mk (fun h=>⟨rfl,zrA oM⟩) (fun h1=>?_);refine zb.t (zig (zF s i) (zY s i).clip (jL s i) (zdt ht i).2) ?_;exact ⟨rfl,zp6 oM .refl⟩
theorem zux(s:Sc)(i:Int)(ht:jq s):ze Tryz.prog 13 [.agg (scE s),i64 i] [] (zfS s i) []:=by
 refine zd tok mix Tryz.func13 rfl rfl rfl ?_;refine zb.t (zrx s i ht) ?_;have out:¬inS s i->LE (.tup [.val (.slice none 0 0),bl false]) (zfS s i):=fun h=>zrA (by rw [(zg5 h).2.2];rfl)
 refine Br.mk (fun h=>out fun k=>uh.1 k (.inl h)) (fun h1=>?_);refine Br.mk (fun h=>out fun k=>uh.1 k (.inr h)) (fun h2=>?_);have hin:inS s i:=uh.2 fun k=>k.elim h1 h2
 obtain ⟨n,hn⟩:=za4 hin;have hi:=(List.getElem?_eq_some_iff.1 hn).1;have hi0:=hin.2;have en:=zie hin hn;refine Ob.o ?_;intro x hx;have hx:x=n:=Option.some.inj ((show s.ns[i.toNat]? =some x from hx).symm.trans hn);rw [hx];intro hl0;refine Br.mk (fun h=>zrA (by rw [en];have h:(n.clip.length:Int)=0:=h;omega)) (fun h3=>?_);have hc:(zY s i).clip.length≠0:=by rw [en];have h3:¬(n.clip.length:Int)=0:=h3;omega
 refine Br.mk (fun h=>zp6 hc (by rw [show za3 (zF s i) (zY s i).clip=[] from if_pos h];exact zI)) (fun h4=>?_);have h4:(zF s i).2=0:=Decidable.not_not.1 h4;refine Dr.k ?_;refine Ob.o ?_;intro y hy;have hy:y=n:=Option.some.inj ((show s.ns[i.toNat]? =some y from hy).symm.trans hn);rw [hy];refine zb.t (zuv n.clip (zF s i).1 32 ((jL s i).up dC)) ?_;have e:za3 (zF s i) (zY s i).clip=(zbK n.clip (zF s i).1 32).1:=by rw [en];exact if_neg fun k=>k h4
 exact zp6 hc (by rw [e];exact .refl)
end Go.Gs
