/- Scenes: what is kY; a node and its ancestors: plain. -/
import Derived.Test.YtcjnhffjmonbeaaGreatDoorMA
import Derived.Test.YtcjnhffjmonbeaaGreatDoorMBL
import Derived.Test.YtcjnhffjmonbeaaGreatDoorMBJ
set_option maxRecDepth 100000
set_option maxHeartbeats 8000000
set_option linter.all false
namespace Go.Gs
def jB(l:List Nd)(i:Nat):Int:=match l[i]? with
 | some n=>zcY l i n
 | none=>0
theorem v7{l:List Nd}{i:Nat}{n:Nd}(h:l[i]? =some n):jB l i=zcY l i n:=by unfold jB;rw [h]
def zh9(l:List Nd):Option Nat:=(List.range l.length).find? fun i=>decide (jB l i≠0)
theorem zrp{l:List Nd}{i:Nat}(hi:i < l.length)(h:∀j,j < i->jB l j=0)(hb:jB l i≠0):zh9 l=some i:=by
 unfold zh9;rw [List.find?_range_eq_some];exact ⟨by simpa using hb,List.mem_range.2 hi,fun j hj=>by simpa using h j hj⟩
theorem znr{l:List Nd}(h:∀j,j < l.length->jB l j=0):zh9 l=none:=by
 unfold zh9;rw [List.find?_range_eq_none];exact fun j hj=>by simpa using h j hj
theorem zns{l:List Nd}{i:Nat}(h:zh9 l=some i):i < l.length/\jB l i≠0:=by
 unfold zh9 at h;rw [List.find?_range_eq_some] at h;exact ⟨List.mem_range.1 h.2.1,by simpa using h.1⟩
def zc1(s:Sc):Prop:=s.w < 1∨256 < s.w∨s.h < 1∨256 < s.h
instance (s:Sc):Decidable (zc1 s):=inferInstanceAs (Decidable (_∨_))
def zdW(s:Sc):Int×Int:=if zc1 s then (6,0) else if 64 < s.ns.length then (5,64) else match zh9 s.ns with
 | some i=>(jB s.ns i,i)
 | none=>(0,0)
def qM(s:Sc):Prop:=(zdW s).1=0
instance (s:Sc):Decidable (qM s):=inferInstanceAs (Decidable (_=_))
theorem zfL{s:Sc}:qM s↔¬zc1 s/\s.ns.length<=64/\∀j,j < s.ns.length->jB s.ns j=0:=by
 unfold qM zdW
 by_cases h1:zc1 s
 ·rw [if_pos h1];exact ⟨fun h=>absurd h dC,fun h=>absurd h1 h.1⟩
 rw [if_neg h1]
 by_cases h2:64 < s.ns.length
 ·rw [if_pos h2];exact ⟨fun h=>absurd h dC,fun h=>absurd h.2.1 oM⟩
 rw [if_neg h2]
 cases hb:zh9 s.ns with
 | some i=>
  obtain ⟨h3,h4⟩:=zns hb;exact ⟨fun h=>absurd h h4,fun h=>absurd (h.2.2 i h3) h4⟩
 | none=>
  refine ⟨fun _=>⟨h1,oM,fun j hj=>?_⟩,fun _=>rfl⟩;unfold zh9 at hb;rw [List.find?_range_eq_none] at hb
  simpa using hb j hj
theorem zg1{l:List Nd}{i:Nat}{n:Nd}(h:zcY l i n=0):jh n=0/\n.id∉(l.take i).map Nd.id/\k8 l i n:=by
 unfold zcY at h
 by_cases h1:jh n≠0
 ·rw [if_pos h1] at h;exact absurd h h1
 rw [if_neg h1] at h
 by_cases h2:n.id∈(l.take i).map Nd.id
 ·rw [if_pos h2] at h;exact absurd h dC
 rw [if_neg h2] at h
 by_cases h3:k8 l i n
 ·exact ⟨Decidable.not_not.1 h1,h2,h3⟩
 ·rw [if_pos h3] at h;exact absurd h dC
theorem za1{n:Nd}(h:jh n=0):(1<=n.k/\n.k<=3)/\(0<=n.d/\n.d < 8)/\n.t.ok/\qH n.t≠0/\kY n.clip/\zcX n:=by
 unfold jh at h
 by_cases h1:n.k < 1∨3 < n.k
 ·rw [if_pos h1] at h;exact absurd h dC
 rw [if_neg h1] at h
 by_cases h2:n.id < 1∨1073741824 < n.id∨n.d < 0∨8<=n.d
 ·rw [if_pos h2] at h;exact absurd h dC
 rw [if_neg h2] at h
 by_cases h3:¬n.t.ok
 ·rw [if_pos h3] at h;exact absurd h dC
 rw [if_neg h3] at h
 by_cases h4:qH n.t=0
 ·rw [if_pos h4] at h;exact absurd h dC
 rw [if_neg h4] at h
 by_cases h5:¬kY n.clip
 ·rw [if_pos h5] at h;exact absurd h dC
 rw [if_neg h5] at h
 by_cases h6:¬zcX n
 ·rw [if_pos h6] at h;exact absurd h dC
 exact ⟨oM,oM,Decidable.not_not.1 h3,h4,Decidable.not_not.1 h5,Decidable.not_not.1 h6⟩
theorem v8{s:Sc}(h:qM s){i:Nat}{n:Nd}(hn:s.ns[i]? =some n):jh n=0/\n.id∉(s.ns.take i).map Nd.id/\k8 s.ns i n:=by
 have:=(zfL.1 h).2.2 i (List.getElem?_eq_some_iff.1 hn).1;rw [v7 hn] at this;exact zg1 this
def zL(l:List Nd):List Int:=l.map Nd.d
theorem yB{l:List Nd}{i:Nat}{n:Nd}(h:l[i]? =some n):(zL l)[i]? =some n.d:=by unfold zL;rw [List.getElem?_map,h];rfl
theorem yC{l:List Nd}{i:Nat}{d:Int}(h:(zL l)[i]? =some d):∃n,l[i]? =some n/\n.d=d:=by
 unfold zL at h;rw [List.getElem?_map] at h
 cases hn:l[i]? with
 | none=>rw [hn] at h;cases h
 | some n=>rw [hn] at h;exact ⟨n,rfl,Option.some.inj h⟩
theorem za2{s:Sc}(h:qM s):zfG (zL s.ns):=by
 refine ⟨fun d hd=>?_,fun d hd=>?_,fun i a b ha hb=>?_⟩
 ·obtain ⟨n,hn,rfl⟩:=yC hd;have:=(v8 h hn).2.2;unfold k8 at this;rw [show s.ns[0 - 1]? =some n from hn] at this;exact this
 ·obtain ⟨i,hi,he⟩:=List.getElem_of_mem hd;obtain ⟨n,hn,rfl⟩:=yC (he ▸ List.getElem?_eq_getElem hi);exact (za1 (v8 h hn).1).2.1.1
 ·obtain ⟨n,hn,rfl⟩:=yC ha;obtain ⟨m,hm,rfl⟩:=yC hb;have:=(v8 h hm).2.2;unfold k8 at this;rw [show s.ns[i+1 - 1]? =some n from hn] at this;have this:(n.k=1/\m.d=n.d+1)∨m.d<=n.d:=this;omega
theorem zee(ds:List Int)(i:Nat): -1<=j8 ds i/\j8 ds i < i:=⟨(zcZ ds _ i).1,(zcZ ds _ i).2.1⟩
theorem zdP(ds:List Int):∀(n m:Nat) (i:Int),i < n->i < m->zb5 ds n i=zb5 ds m i
 | 0,0,_,_,_=>rfl
 | 0,m+1,i,h,_=>by show []=if i < 0 then [] else _;rw [if_pos oM]
 | n+1,0,i,_,h=>by show (if i < 0 then [] else _)=[];rw [if_pos oM]
 | n+1,m+1,i,h1,h2=>by
  show (if i < 0 then [] else i.toNat::zb5 ds n (j8 ds i.toNat))=if i < 0 then [] else i.toNat::zb5 ds m (j8 ds i.toNat)
  by_cases c:i < 0
  ·rw [if_pos c,if_pos c]
  ·have:=zee ds i.toNat;rw [if_neg c,if_neg c,zdP ds n m _ oM oM]
def kM(ds:List Int)(i:Int):List Nat:=zb5 ds (i+1).toNat i
theorem zbz{ds:List Int}{i:Int}(h:i < 0):kM ds i=[]:=by
 unfold kM;rw [show (i+1).toNat=0 by omega];rfl
theorem qR(ds:List Int)(i:Nat):kM ds i=i::kM ds (j8 ds i):=by
 have h:=zee ds i;unfold kM;rw [show ((i:Int)+1).toNat=i+1 by omega];show (if (i:Int) < 0 then [] else (i:Int).toNat::zb5 ds i (j8 ds (i:Int).toNat))=_;rw [if_neg oM,show (i:Int).toNat=i from rfl,zdP ds i (j8 ds i+1).toNat _ oM oM]
theorem zfM{ds:List Int}:∀{k i a j:Nat},(kM ds i)[k]? =some a->j8 ds a=j->(kM ds i)[k+1]? =some j
 | 0,i,a,j,h,hj=>by
  rw [qR] at h ⊢
  cases h
  show (kM ds (j8 ds i))[0]? =some j;rw [hj,qR];rfl
 | k+1,i,a,j,h,hj=>by
  rw [qR] at h ⊢;have h:(kM ds (j8 ds i))[k]? =some a:=h;show (kM ds (j8 ds i))[k+1]? =some j
  rcases Int.lt_or_le (j8 ds i) 0 with c | c
  ·rw [zbz c] at h;cases h
  ·obtain ⟨q,hq⟩:=Int.eq_ofNat_of_zero_le c;rw [hq] at h ⊢;exact zfM h hj
theorem zdq{ds:List Int}(hs:zfG ds):∀{k i a:Nat} {d:Int},ds[i]? =some d->(kM ds i)[k]? =some a->ds[a]? =some (d - k)
 | 0,i,a,d,hd,h=>by
  rw [qR] at h
  cases h
  rw [hd];congr 1;omega
 | k+1,i,a,d,hd,h=>by
  rw [qR] at h;have h:(kM ds (j8 ds i))[k]? =some a:=h;have hp:=zc0 hs hd;have h0:=hs.2.1 d (List.mem_of_getElem? hd)
  by_cases c:d=0
  ·rw [hp.1 c,zbz dC] at h;cases h
  ·obtain ⟨j,hj,_,hjd⟩:=hp.2 oM;rw [hj] at h;have:=zdq hs hjd h;rw [this];congr 1;omega
theorem zdr{ds:List Int}(hs:zfG ds):∀{d i:Nat},ds[i]? =some (d:Int)->(kM ds i).length=d+1
 | 0,i,hd=>by
  rw [qR,(zc0 hs hd).1 rfl,zbz dC];rfl
 | d+1,i,hd=>by
  obtain ⟨j,hj,_,hjd⟩:=(zc0 hs hd).2 oM;rw [qR,hj,List.length_cons,zdr (d:=d) hs (by rw [hjd];congr 1;omega)]
def tAt(l:List Nd)(k:Nat):AF:=match l[k]? with
 | some n=>n.t
 | none=>idA
theorem zjN{l:List Nd}{k:Nat}{n:Nd}(h:l[k]? =some n):tAt l k=n.t:=by unfold tAt;rw [h]
def trs(l:List Nd)(i:Int):List AF:=(kM (zL l) i).map (tAt l)
theorem zjO{l:List Nd}{i:Nat}{n:Nd}(h:l[i]? =some n):trs l i=n.t::trs l (j8 (zL l) i):=by
 unfold trs;rw [qR,List.map_cons,zjN h]
theorem zl9{l:List Nd}{i:Int}(h:i < 0):trs l i=[]:=by unfold trs;rw [zbz h];rfl
def inS(s:Sc)(i:Int):Prop:=qM s/\0<=i/\i < s.ns.length
instance (s:Sc) (i:Int):Decidable (inS s i):=inferInstanceAs (Decidable (_/\_))
def zF(s:Sc)(i:Int):AF×Int:=if ¬qM s then (kw,18) else if i < 0∨s.ns.length<=i then (kw,8) else yi (trs s.ns i)
def zNd:Nd:=⟨0,0,0,kw,[],0,0,0,false,false,[],0,[],⟨0,0,0,0,[],0⟩,[],⟨0,0,[]⟩,0⟩
def zY(s:Sc)(i:Int):Nd:=if inS s i then (s.ns[i.toNat]?).getD zNd else zNd
def za3(w:AF×Int)(l:List Sg):List (List Pt):=if w.2≠0 then [] else (zbK l w.1 32).1
def yP(s:Sc)(i:Int):List (List Pt):=if (zY s i).k≠2∨(zY s i).fill.length=0 then [] else za3 (zF s i) (zY s i).path
def zma(s:Sc)(i:Int):List (List Pt):=if (zY s i).k≠2∨(zY s i).strk.length=0 then [] else if (zF s i).2≠0 then [] else (outR (zY s i).path (zY s i).pen (zF s i).1 32).1
def imgG(s:Sc)(i:Int):List (List Pt):=if (zY s i).k≠3 then [] else za3 (zF s i) (y3 0 0 (zY s i).im.w (zY s i).im.h)
def zjP(s:Sc)(i:Int):List (List Pt):=if (zY s i).clip.length=0 then [] else za3 (zF s i) (zY s i).clip
theorem zpT{l:List Sg}{t:AF}{tol:Int}(h:(zbK l t tol).2≠0):(zbK l t tol).1=[]:=by
 unfold zbK at h ⊢
 by_cases h1:(trans t l).2≠0
 ·rw [if_pos h1]
 rw [if_neg h1] at h ⊢
 by_cases h2:(kZ (trans t l).1 tol).2≠0
 ·rw [if_pos h2]
 rw [if_neg h2] at h;exact absurd rfl h
open Go.Proofs
def mdN(l:List Nd):Nat->Int
 | 0=>0
 | i+1=>match l[i]? with
  | some n=>if n.k=1 then n.d+1 else n.d
  | none=>0
def zbN(s:Sc):Prop:=s.ns.length<=64->∀n∈s.ns,zfI n
theorem zk6{l:List Nd}{i:Nat}{n:Nd}(h:l[i]? =some n)(h0:0<=n.d):k8 l i n↔¬mdN l i < n.d:=by
 cases i with
 | zero=>
  unfold k8 mdN;rw [show l[0 - 1]? =some n from h];show n.d=0↔¬0 < n.d;omega
 | succ i=>
  obtain ⟨p,hp⟩:∃p,l[i]? =some p:=⟨_,List.getElem?_eq_getElem (by have:=(List.getElem?_eq_some_iff.1 h).1;omega)⟩;have hs:k8 l (i+1) n=(if i+1=0 then n.d=0 else (p.k=1/\n.d=p.d+1)∨n.d<=p.d):=by unfold k8;rw [show l[i+1 - 1]? =some p from hp]
  have hm:mdN l (i+1)=if p.k=1 then p.d+1 else p.d:=by
   show (match l[i]? with | some n=>if n.k=1 then n.d+1 else n.d | none=>0)=_;rw [hp]
  rw [hs,hm,if_neg (Nat.succ_ne_zero i)]
  split <;> omega
def znu(r:Int×Int):SV:=.tup [i64 r.1,i64 r.2]
theorem yQ{s:Sc}(h:zc1 s):LE (.tup [i64 6,i64 0]) (znu (zdW s)):=by rw [zdW,if_pos h];exact .refl
theorem zg2{s:Sc}(h1:¬zc1 s)(h2:64 < s.ns.length):LE (.tup [i64 5,i64 64]) (znu (zdW s)):=by rw [zdW,if_neg h1,if_pos h2];exact .refl
theorem zef{s:Sc}{i:Nat}{x:Nd}{e:Int}(h1:¬zc1 s)(h2:¬64 < s.ns.length)(hx:s.ns[i]? =some x)(hz:∀j,j < i->jB s.ns j=0)(he:zcY s.ns i x=e)(h0:e≠0):LE (.tup [i64 e,i64 (i:Int)]) (znu (zdW s)):=by
 have ee:=v7 hx;rw [he] at ee;rw [zdW,if_neg h1,if_neg h2,zrp (List.getElem?_eq_some_iff.1 hx).1 hz (by rw [ee];exact h0)];show LE _ (.tup [i64 (jB s.ns i),i64 (i:Int)]);rw [ee];exact .refl
theorem zmb{s:Sc}(h1:¬zc1 s)(h2:¬64 < s.ns.length)(hz:∀j,j < s.ns.length->jB s.ns j=0):LE (.tup [i64 0,i64 0]) (znu (zdW s)):=by
 rw [zdW,if_neg h1,if_neg h2,znr hz];exact .refl
theorem zpU{l:List Nd}{i:Nat}{x:Nd}(h:l[i]? =some x):(l.take (i+1)).map Nd.id=(l.take i).map Nd.id++[x.id]:=by
 rw [List.take_add_one,h,List.map_append];rfl
theorem zjR{l:List Nd}{i:Nat}{x:Nd}(h:¬jh x=0):zcY l i x=jh x:=if_pos h
theorem zjS{l:List Nd}{i:Nat}{x:Nd}(h:jh x=0)(k:x.id∈(l.take i).map Nd.id):zcY l i x=7:=by unfold zcY;rw [if_neg (fun q=>q h),if_pos k]
theorem zfN{l:List Nd}{i:Nat}{x:Nd}(h:jh x=0)(k:x.id∉(l.take i).map Nd.id)(d:¬k8 l i x):zcY l i x=17:=by unfold zcY;rw [if_neg (fun q=>q h),if_neg k,if_pos d]
theorem zmc{l:List Nd}{i:Nat}{x:Nd}(h:jh x=0)(k:x.id∉(l.take i).map Nd.id)(d:k8 l i x):zcY l i x=0:=by unfold zcY;rw [if_neg (fun q=>q h),if_neg k,if_neg (fun q=>q d)]
theorem zg3{l:List Nd}{i:Nat}{x:Nd}(hx:l[i]? =some x)(hz:∀j,j < i->jB l j=0)(he:zcY l i x=0):∀j,j < i+1->jB l j=0:=fun j hj=>by
 by_cases c:j=i
 ·rw [c,v7 hx,he]
 ·exact hz j oM
theorem zrq(s:Sc)(ht:zbN s):ze Tryz.prog 62 [.agg (scE s)] [] (znu (zdW s)) []:=by
 refine zd tok mix Tryz.func62 rfl rfl rfl ?_;refine Br.mk (fun h=>yQ (.inl h)) (fun h1=>?_);refine Br.mk (fun h=>yQ (.inr (.inl h))) (fun h2=>?_);refine Br.mk (fun h=>yQ (.inr (.inr (.inl h)))) (fun h3=>?_);refine Br.mk (fun h=>yQ (.inr (.inr (.inr h)))) (fun h4=>?_);have hb:¬zc1 s:=fun k=>k.elim h1 fun k=>k.elim h2 fun k=>k.elim h3 h4
 intro hl0;refine Br.mk (fun h=>zg2 hb oM) (fun h5=>?_);have hn:¬64 < s.ns.length:=oM;have ht:=ht oM;intro hl1
 refine ⟨Nat,fun i=>⟨[(35,i64 (i:Int)),(34,i64 (s.ns.length:Int)),(33,.sl ndE s.ns),(5,i64 (mdN s.ns i)),(4,.own 1),(1,.loc 0 0)],
  [(1,.map (zia ((s.ns.take i).map Nd.id))),(0,.box 26 (scE s))],2,67,0⟩,fun i=>i<=s.ns.length/\∀j,j < i->jB s.ns j=0,fun i=>s.ns.length - i,0,⟨Nat.zero_le _,fun j h=>by omega⟩,?_,?_⟩
 ·exact zi [(0,some 0),(1,some 1)]
 rintro i ⟨hi,hz⟩
 refine Br.mk (fun g=>?_) (fun g=>?_)
 ·have g:(i:Int) < s.ns.length:=g;refine Ob.o ?_;intro x hx;have hx:s.ns[i]? =some x:=hx;have hm:=List.mem_of_getElem? hx;refine zb.t (zro x (ht x hm)) ?_;refine Br.mk (fun h=>zef hb hn hx hz (zjR h) h) (fun h6=>?_);have h6:jh x=0:=Decidable.not_not.1 h6;refine znt (n:=x.id) (ks:=(s.ns.take i).map Nd.id) (fun _ _ _ a b=>Br.mk a b) (fun h=>?_) (fun h7=>?_)
  ·exact zef hb hn hx hz (zjS h6 h) dC
  have hs:=zk6 hx (za1 h6).2.1.1;have hd:=(za1 h6).2.1;refine Br.mk (fun h=>zef hb hn hx hz (zfN h6 h7 (fun q=>hs.1 q h)) dC) (fun h8=>?_);have hz':=zg3 hx hz (zmc h6 h7 (hs.2 h8));refine zjQ h7 ?_;have em:zia ((s.ns.take i).map Nd.id++[x.id])=zia ((s.ns.take (i+1)).map Nd.id):=by rw [zpU hx]
  refine Br.mk (fun h9=>?_) (fun h9=>?_)
  ·have e5:x.d+1=mdN s.ns (i+1):=by show _=(match s.ns[i]? with | some n=>if n.k=1 then n.d+1 else n.d | none=>0);rw [hx];exact (if_pos h9).symm
   (iterate 2 refine Ar.o ?_);exact ⟨i+1,⟨oM,hz'⟩,kr [(0,some 0),(1,some 1)] ⟨rfl,rfl,rfl,congrArg (fun q=>some (i64 q)) e5,rfl,rfl,trivial⟩ ⟨congrArg (fun q=>some (Mem.map q)) em,rfl,trivial⟩,by dsimp only;omega⟩
  ·have e5:x.d=mdN s.ns (i+1):=by show _=(match s.ns[i]? with | some n=>if n.k=1 then n.d+1 else n.d | none=>0);rw [hx];exact (if_neg h9).symm
   refine Ar.o ?_;exact ⟨i+1,⟨oM,hz'⟩,kr [(0,some 0),(1,some 1)] ⟨rfl,rfl,rfl,congrArg (fun q=>some (i64 q)) e5,rfl,rfl,trivial⟩ ⟨congrArg (fun q=>some (Mem.map q)) em,rfl,trivial⟩,by dsimp only;omega⟩
 ·have g:¬(i:Int) < s.ns.length:=g;exact zmb hb hn fun j hj=>hz j oM
theorem zib(s:Sc)(ht:zbN s):ze Tryz.prog 29 [.agg (scE s)] [] (pr (qM s)) []:=by
 refine zd tok mix Tryz.func29 rfl rfl rfl ?_;refine zb.t (zrq s ht) ?_;exact zu Iff.rfl
theorem s_has(s:Sc)(i:Int)(ht:zbN s):ze Tryz.prog 63 [.agg (scE s),i64 i] [] (pr (inS s i)) []:=by
 refine zd tok mix Tryz.func63 rfl rfl rfl ?_;refine Br.mk (fun h1=>?_) (fun h1=>zc fun k=>h1 k.2.1);intro hl0;refine Br.mk (fun h2=>?_) (fun h2=>zc fun k=>h2 k.2.2);refine zb.t (zib s ht) ?_;exact zu ⟨fun h=>⟨h,h1,h2⟩,fun k=>k.1⟩
def parS(s:Sc)(i:Int):Int:=if inS s i then j8 (zL s.ns) i.toNat else -1
theorem ztd(l:List Nd)(i:Nat)(n:Nd)(hn:l[i]? =some n)(hd:∀n∈l,0<=n.d/\n.d < 8)(hl:l.length<=64):ze Tryz.prog 64 [.sl ndE l,i64 (i:Int)] [] (i64 (j8 (zL l) i)) []:=by
 have hi:=(List.getElem?_eq_some_iff.1 hn).1;have eg:(zL l).getD i 0=n.d:=by rw [List.getD_eq_getElem?_getD,yB hn];rfl
 have ep:j8 (zL l) i=yo (zL l) (n.d - 1) i:=by unfold j8;rw [eg]
 have hnd:=hd n (List.mem_of_getElem? hn);refine zd tok mix Tryz.func64 rfl rfl rfl ?_;refine Ar.o ?_;refine ⟨Nat,fun m=>⟨[(5,i64 ((m:Int) - 1)),(1,i64 (i:Int)),(0,.sl ndE l)],[],0,25,0⟩,fun m=>m<=i/\yo (zL l) (n.d - 1) m=j8 (zL l) i,fun m=>m,i,⟨Nat.le_refl _,ep.symm⟩,?_,?_⟩
 ·exact zi []
 rintro m ⟨hm,he⟩
 refine Br.mk (fun g=>?_) (fun g=>?_)
 ·have g:0<=(m:Int) - 1:=g;obtain ⟨k,rfl⟩:∃k,m=k+1:=⟨m - 1,oM⟩;refine Dr.k ?_;refine Ob.o ?_;intro x hx;have hx:l[k]? =some x:=by rw [← hx];congr 1;omega
  refine Ob.o ?_;intro y hy;have hy:y=n:=Option.some.inj ((show l[i]? =some y from hy).symm.trans hn);rw [hy];refine Ar.o ?_;have hk:=yB hx;refine Br.mk (fun h=>?_) (fun h=>?_)
  ·refine zm ?_;rw [← he];unfold yo;rw [hk,if_pos (by rw [h])];omega
  ·refine Ar.o ?_;refine ⟨k,⟨oM,?_⟩,kr [] ⟨congrArg (fun q=>some (i64 q)) oM,rfl,rfl,trivial⟩ trivial,by dsimp only;omega⟩;rw [← he]
   conv=>rhs;unfold yo
   rw [hk,if_neg (fun q=>h (Option.some.inj q))]
 ·have g:¬0<=(m:Int) - 1:=g;obtain rfl:m=0:=oM;exact zm he
theorem za4{s:Sc}{i:Int}(h:inS s i):∃n,s.ns[i.toNat]? =some n:=⟨_,List.getElem?_eq_getElem (by have:=h.2;omega)⟩
theorem zb6{s:Sc}(h:qM s):∀n∈s.ns,0<=n.d/\n.d < 8:=fun n hn=>by
 obtain ⟨j,hj,e⟩:=List.getElem_of_mem hn;exact (za1 (v8 h (e ▸ List.getElem?_eq_getElem hj)).1).2.1
theorem uH{s:Sc}(h:qM s):s.ns.length<=64:=(zfL.1 h).2.1
theorem zjT(s:Sc)(i:Int)(ht:zbN s):ze Tryz.prog 30 [.agg (scE s),i64 i] [] (i64 (parS s i)) []:=by
 refine zd tok mix Tryz.func30 rfl rfl rfl ?_;refine zb.t (s_has s i ht) ?_;refine Br.mk (fun h=>zm (if_neg h).symm) (fun h=>?_);have h:inS s i:=Decidable.not_not.1 h;obtain ⟨n,hn⟩:=za4 h;have hp:=ztd s.ns i.toNat n hn (zb6 h.1) (uH h.1);rw [show ((i.toNat:Nat):Int)=i by have:=h.2.1;omega] at hp;refine zb.t hp ?_;exact zm (if_pos h).symm
theorem zpW(n:Int):ze Tryz.prog 272 [i64 n] [] (pr (vZ n)) []:=by
 refine zd tok mix Tryz.func272 rfl rfl rfl ?_;refine Br.mk (fun h=>?_) (fun h=>?_)
 ·exact zH (.inl h)
 ·exact zu ⟨.inr,fun k=>k.resolve_left h⟩
theorem zmd(n:Nd):ze Tryz.prog 276 [.agg (ndE n)] [] (pr (vt n)) []:=by
 refine zd tok mix Tryz.func276 rfl rfl rfl ?_;refine Br.mk (fun h1=>?_) (fun h1=>zc fun k=>h1 k.1);refine Br.mk (fun h2=>?_) (fun h2=>zc fun k=>h2 k.2.1);refine Br.mk (fun h3=>?_) (fun h3=>zc fun k=>h3 (by rw [k.2.2.1];decide));exact zu ⟨fun h=>⟨h1,h2,by simpa using h3,by simpa using h⟩,fun k=>by rw [k.2.2.2];decide⟩
theorem zme(n:Nd):ze Tryz.prog 273 [.agg (ndE n)] [] (pr (zae n)) []:=by
 refine zd tok mix Tryz.func273 rfl rfl rfl ?_;intro hl1;refine Br.mk (fun h1=>?_) (fun h1=>zc fun k=>h1 (by have:=k.1;omega));refine Br.mk (fun h2=>?_) (fun h2=>zc fun k=>h2 k.2.1);intro hl2;refine Br.mk (fun h3=>?_) (fun h3=>zc fun k=>h3 (by have:=k.2.2.1;omega));intro hl3;exact zu ⟨fun h=>⟨oM,h2,oM,oM⟩,fun k=>by have:=k.2.2.2;omega⟩
theorem zic(n:Nd):ze Tryz.prog 274 [.agg (ndE n)] [] (pr (jp n.pen)) []:=by
 refine zd tok mix Tryz.func274 rfl rfl rfl ?_;refine Br.mk (fun h1=>?_) (fun h1=>zc fun k=>h1 k.1);refine Br.mk (fun h2=>?_) (fun h2=>zc fun k=>h2 k.2.1);refine Br.mk (fun h3=>?_) (fun h3=>zc fun k=>h3 k.2.2.1);refine Br.mk (fun h4=>?_) (fun h4=>zc fun k=>h4 k.2.2.2.1);intro hl1;refine Br.mk (fun h5=>?_) (fun h5=>zc fun k=>h5 (by rw [k.2.2.2.2.1];rfl));have h5:n.pen.d.length=0:=oM;exact zu ⟨fun h=>⟨h1,h2,h3,h4,List.length_eq_zero_iff.1 h5,h⟩,fun k=>k.2.2.2.2.2⟩
theorem zmf(n:Nd):ze Tryz.prog 275 [.agg (ndE n)] [] (pr (vu n)) []:=by
 refine zd tok mix Tryz.func275 rfl rfl rfl ?_;refine Br.mk (fun h1=>?_) (fun h1=>zc fun k=>h1 k.1);refine Br.mk (fun h2=>?_) (fun h2=>zc fun k=>h2 k.2.1);intro hl1;refine Br.mk (fun h3=>?_) (fun h3=>zc fun k=>h3 (by have:=k.2.2.1;omega));exact zu ⟨fun h=>⟨h1,h2,oM,h⟩,fun k=>k.2.2.2⟩
theorem zte(n:Nd):ze Tryz.prog 226 [.agg (ndE n)] [] (pr (zcX n)) []:=by
 have bad:¬jX n->LE (bl false) (pr (zcX n)):=fun h=>zc fun k=>h k.1
 refine vN tok Tryz.func226 rfl rfl rfl (zaf.cut tok mix 2 (fun _:Unit=>⟨[(1,.loc 0 0)],[(0,.box 66 (ndE n))],1,56,0⟩) (fun _=>jX n) ?_ fun _ hk=>zaf.vc tok mix ?_)
 ·intro hl1;refine Br.mk (fun h1=>?_) (fun h1=>?_)
  ·refine Br.mk (fun h2=>bad fun k=>k.elim (fun k=>h2 k.2) fun k=>by have:=k.1;omega) (fun h2=>?_);intro hl2;refine Br.mk (fun h3=>?_) (fun h3=>⟨(),.inl ⟨oM,Decidable.not_not.1 h2⟩,zi [(0,some 0)]⟩);omega
  ·intro hl2;refine Br.mk (fun h3=>?_) (fun h3=>?_)
   ·refine zb.t (zpW n.cr) ?_;refine Br.mk (fun h4=>bad fun k=>k.elim (fun k=>by have:=k.1;omega) fun k=>h4 k.2) (fun h4=>?_);exact ⟨(),.inr ⟨oM,Decidable.not_not.1 h4⟩,zi [(0,some 0)]⟩
   ·omega
 ·refine Br.mk (fun k1=>?_) (fun k1=>?_)
  ·have e:zcX n↔(zae n/\jp n.pen)/\vu n:=by unfold zcX;rw [if_pos k1];exact ⟨fun h=>h.2,fun h=>⟨hk,h⟩⟩
   refine zb.t (zme n) ?_;refine Br.mk (fun a=>?_) (fun a=>zc fun k=>a (e.1 k).1.1);refine zb.t (zic n) ?_;refine Br.mk (fun b=>?_) (fun b=>zc fun k=>b (e.1 k).1.2);refine zb.t (zmf n) ?_;exact zu ⟨fun h=>e.2 ⟨⟨a,b⟩,h⟩,fun k=>(e.1 k).2⟩
  refine Br.mk (fun k2=>?_) (fun k2=>?_)
  ·have e:zcX n↔vt n/\vu n:=by unfold zcX;rw [if_neg k1,if_pos k2];exact ⟨fun h=>h.2,fun h=>⟨hk,h⟩⟩
   refine zb.t (zmd n) ?_;refine Br.mk (fun a=>?_) (fun a=>zc fun k=>a (e.1 k).1);refine zb.t (zmf n) ?_;exact zu ⟨fun h=>e.2 ⟨a,h⟩,fun k=>(e.1 k).2⟩
  ·have e:zcX n↔vt n/\zae n/\jp n.pen:=by unfold zcX;rw [if_neg k1,if_neg k2];exact ⟨fun h=>h.2,fun h=>⟨hk,h⟩⟩
   refine zb.t (zmd n) ?_;refine Br.mk (fun a=>?_) (fun a=>zc fun k=>a (e.1 k).1);refine zb.t (zme n) ?_;refine Br.mk (fun b=>?_) (fun b=>zc fun k=>b (e.1 k).2.1);refine zb.t (zic n) ?_;exact zu ⟨fun h=>e.2 ⟨a,b,h⟩,fun k=>(e.1 k).2.2⟩
theorem zjV(xs:List Pnt)(ht:zaZ xs):ze Tryz.prog 278 [.sl jW xs] [] (pr (jA xs)) []:=by
 refine zd tok mix Tryz.func278 rfl rfl rfl ?_;refine ⟨Int,fun i=>⟨[(3,i64 i),(0,.sl jW xs)],[],0,16,0⟩,fun i=>0<=i/\i<=xs.length/\∀(j:Nat) q,(j:Int) < i->xs[j]? =some q->yk q,fun i=>((xs.length:Int) - i).toNat,0,?_,?_,?_⟩
 ·exact ⟨oM,oM,fun j q hj=>by omega⟩
 ·exact zi []
 rintro i ⟨h1,h2,h3⟩
 intro hl0;refine Br.mk (fun h4=>?_) (fun h4=>?_)
 ·refine Ob.o ?_;intro x hx;have hm:=ht x (List.mem_of_getElem? hx);refine zb.t (zjU x hm.1) ?_;refine Br.mk (fun h5=>zc fun k=>h5 (k x (List.mem_of_getElem? hx))) (fun h5=>?_);refine Ar.o ?_;refine ⟨i+1,⟨oM,oM,fun j q hj hq=>?_⟩,zi [],by dsimp only;omega⟩
  by_cases e:j=i.toNat
  ·subst e;rw [hx] at hq;cases hq;exact Decidable.not_not.1 h5
  ·exact h3 j q oM hq
 ·refine zH fun p hp=>?_
  obtain ⟨j,hj,he⟩:=List.getElem_of_mem hp;exact h3 j p oM (by rw [← he];exact List.getElem?_eq_getElem hj)
theorem zrs(n:Nd)(t1:zaZ n.fill)(t2:zaZ n.strk):ze Tryz.prog 227 [.agg (ndE n)] [] (i64 (yl n)) []:=by
 refine zd tok mix Tryz.func227 rfl rfl rfl ?_;refine zb.t (zjj n.path) ?_;refine Br.mk (fun h1=>zm (by unfold yl;rw [if_pos h1])) (fun h1=>?_);refine zb.t (zpW n.rule) ?_;refine Br.mk (fun h2=>zm (by unfold yl;rw [if_neg h1,if_pos h2])) (fun h2=>?_);intro hl1;refine Br.mk (fun a1=>zm (by unfold yl;rw [if_neg h1,if_neg h2,if_pos (.inl oM)])) (fun a1=>?_);intro hl2;refine Br.mk (fun a2=>zm (by unfold yl;rw [if_neg h1,if_neg h2,if_pos (.inr oM)])) (fun a2=>?_);have h3:¬(1 < n.fill.length∨1 < n.strk.length):=oM;intro hl3
 refine Br.mk (fun b1=>?_) (fun b1=>?_)
 all_goals first
  | (refine zb.t (zqR n.pen) ?_;refine Br.mk (fun b2=>zm (by unfold yl;rw [if_neg h1,if_neg h2,if_neg h3,if_pos ⟨oM,b2⟩])) (fun b2=>?_);have h4:¬(0 < n.strk.length/\¬yf n.pen):=fun k=>b2 k.2)
  | have h4:¬(0 < n.strk.length/\¬yf n.pen):=fun k=>b1 (by have:=k.1;omega)
 all_goals intro hl4
 all_goals refine Br.mk (fun c1=>?_) (fun c1=>?_)
 all_goals first
  | (refine zb.t (zic n) ?_;refine Br.mk (fun c2=>zm (by unfold yl;rw [if_neg h1,if_neg h2,if_neg h3,if_neg h4,if_pos ⟨oM,c2⟩])) (fun c2=>?_);have h5:¬(n.strk.length=0/\¬jp n.pen):=fun k=>c2 k.2)
  | have h5:¬(n.strk.length=0/\¬jp n.pen):=fun k=>c1 (by have:=k.1;omega)
 all_goals refine zb.t (zjV n.fill t1) ?_
 all_goals refine Br.mk (fun d1=>zm (by unfold yl;rw [if_neg h1,if_neg h2,if_neg h3,if_neg h4,if_neg h5];exact (if_pos (Or.inl d1)).symm)) (fun d1=>?_)
 all_goals refine zb.t (zjV n.strk t2) ?_
 all_goals refine Br.mk (fun d2=>zm (by unfold yl;rw [if_neg h1,if_neg h2,if_neg h3,if_neg h4,if_neg h5];exact (if_pos (Or.inr d2)).symm)) (fun d2=>zm (by unfold yl;rw [if_neg h1,if_neg h2,if_neg h3,if_neg h4,if_neg h5];exact (if_neg (fun k=>k.elim d1 d2)).symm))
theorem zrt(n:Nd)(h:zfI n):ze Tryz.prog 169 [.agg (ndE n)] [] (i64 (jh n)) []:=by
 obtain ⟨ht,t1,t2,t3⟩:=h;refine zd tok mix Tryz.func169 rfl rfl rfl ?_;refine Br.mk (fun a1=>zm (by unfold jh;rw [if_pos (.inl a1)])) (fun a1=>?_);refine Br.mk (fun a2=>zm (by unfold jh;rw [if_pos (.inr a2)])) (fun a2=>?_);have h1:¬(n.k < 1∨3 < n.k):=oM;refine Br.mk (fun b1=>zm (by unfold jh;rw [if_neg h1,if_pos oM])) (fun b1=>?_);refine Br.mk (fun b2=>zm (by unfold jh;rw [if_neg h1,if_pos oM])) (fun b2=>?_);refine Br.mk (fun b3=>zm (by unfold jh;rw [if_neg h1,if_pos oM])) (fun b3=>?_)
 refine Br.mk (fun b4=>zm (by unfold jh;rw [if_neg h1,if_pos oM])) (fun b4=>?_);have h2:¬(n.id < 1∨1073741824 < n.id∨n.d < 0∨8<=n.d):=oM;refine zb.t (zbq n.t (ht.up dC)) ?_;refine Br.mk (fun h3=>zm (by unfold jh;rw [if_neg h1,if_neg h2,if_pos h3])) (fun h3=>?_);refine zb.t (zlJ n.t (ht.up dC)) ?_;refine zb.t (qg 0 (by constructor <;> decide)) ?_;have hcmp:=zhO (ofQ (qH n.t)) (ofQ ((0:Int):Rat)) (by have:=zcW ht;rw [zo];omega) (by decide +kernel);rw [zN,zN] at hcmp;refine zb.t hcmp ?_
 refine Br.mk (fun h4=>zm (by unfold jh;rw [if_neg h1,if_neg h2,if_neg h3,if_pos ((Decidable.not_iff_not.1 (jK _)).1 h4)])) (fun h4=>?_);have h4:¬qH n.t=0:=(jK _).1 h4;refine zb.t (zjj n.clip) ?_;refine Br.mk (fun h5=>zm (by unfold jh;rw [if_neg h1,if_neg h2,if_neg h3,if_neg h4,if_pos h5])) (fun h5=>?_);refine zb.t (zte n) ?_;refine Br.mk (fun h6=>zm (by unfold jh;rw [if_neg h1,if_neg h2,if_neg h3,if_neg h4,if_neg h5,if_pos h6])) (fun h6=>?_);refine Br.mk (fun k2=>?_) (fun k2=>?_)
 ·refine zb.t (zrs n t1 t2) ?_;exact zm (by unfold jh;rw [if_neg h1,if_neg h2,if_neg h3,if_neg h4,if_neg h5,if_neg h6,if_neg oM,if_pos k2])
 refine Br.mk (fun k1=>?_) (fun k1=>?_)
 ·refine zb.t (zs7 n.mode) ?_;exact Br.mk (fun m=>zm (by unfold jh;rw [if_neg h1,if_neg h2,if_neg h3,if_neg h4,if_neg h5,if_neg h6,if_pos k1];exact (if_pos m).symm)) (fun m=>zm (by unfold jh;rw [if_neg h1,if_neg h2,if_neg h3,if_neg h4,if_neg h5,if_neg h6,if_pos k1];exact (if_neg m).symm))
 refine zb.t (zfC n.im) ?_;refine Br.mk (fun m=>zm (by unfold jh;rw [if_neg h1,if_neg h2,if_neg h3,if_neg h4,if_neg h5,if_neg h6,if_neg k1,if_neg k2,if_pos m])) (fun m=>?_);refine Br.mk (fun s1=>?_) (fun s1=>zm (by unfold jh;rw [if_neg h1,if_neg h2,if_neg h3,if_neg h4,if_neg h5,if_neg h6,if_neg k1,if_neg k2,if_neg m,if_neg (fun k=>s1 k.1)]))
 exact Br.mk (fun s2=>zm (by unfold jh;rw [if_neg h1,if_neg h2,if_neg h3,if_neg h4,if_neg h5,if_neg h6,if_neg k1,if_neg k2,if_neg m,if_pos ⟨s1,s2⟩])) (fun s2=>zm (by unfold jh;rw [if_neg h1,if_neg h2,if_neg h3,if_neg h4,if_neg h5,if_neg h6,if_neg k1,if_neg k2,if_neg m,if_neg (fun k=>s2 k.2)]))
end Go.Gs
