/- Halved pictures: the program's. -/
import Derived.Test.YtjfbljononkmcaaMA
import Derived.Test.YtjfbljononkmcaaMAT
import Derived.Test.YtjfbljononkmcaaMAS
set_option maxRecDepth 100000
set_option maxHeartbeats 8000000
set_option linter.all false
namespace Go.Gs
open Go.Proofs
theorem zgM(p:Pix):([p]:List Pix).length=1/\(1:Nat)<=281474976710656/\1*4<=16777216/\0 < 4/\∀x∈[p],(kd x).length=4/\z0 (kd x)=true/\kz.flats (kd x)=true:=
 ⟨rfl,dC,dC,dC,fun _ _=>⟨rfl,rfl,rfl⟩⟩
theorem zgN{l:List Pix}{p:Pix}(h:l.length<=1000000):((l.length:Int)+(([p]:List Pix).length:Int))*4<=140737488355328/\l.length+([p]:List Pix).length<=281474976710656/\0 < 4/\∀x∈[p],(kd x).length=4:=
 ⟨by rw [List.length_singleton];omega,by rw [List.length_singleton];omega,dC,fun _ _=>rfl⟩
abbrev z7:List SV:=vals [.int .i64 0,.int .i64 0,.slice none 0 0]
theorem ziF(m:Img)(hm:okM m):zf Try.prog 60 [.agg (kj m)] [] (.agg [i64 (qd m.w),i64 (qd m.h),.own 0]) [(0,.arr 37 kd 4 (ziC m).px)]:=by
 obtain ⟨m1,m2,m3,m4,_⟩:=id hm.1;have hW:=zi3 m1.1;have hH:=zi3 m2.1;have eW:(m.w+1) / 2=qd m.w:=rfl;have eH:(m.h+1) / 2=qd m.h:=rfl;obtain ⟨W,hWn⟩:∃W:Nat,qd m.w=(W:Int):=⟨(qd m.w).toNat,oM⟩;obtain ⟨H,hHn⟩:∃H:Nat,qd m.h=(H:Int):=⟨(qd m.h).toNat,oM⟩
 have epx:(ziC m).px=gr (ziY m) W (H*W):=by
  unfold ziC;rw [hWn,hHn,Nat.mul_comm H W];rfl
 have hWH:H*W<=65536:=by
  have:qd m.w*qd m.h<=m.w*m.h:=Int.mul_le_mul hW.2.1 hH.2.1 oM oM;rw [hWn,hHn,← Int.natCast_mul,Nat.mul_comm] at this;omega
 rw [epx];refine kJ tok mix Try.func60 rfl rfl rfl ?_;refine Ar.o ?_;refine Dv.pos ⟨oM,dC,by show m.w+1<=9223372036854775807;omega⟩ ?_;refine Ar.o ?_;refine Dv.pos ⟨oM,dC,by show m.h+1<=9223372036854775807;omega⟩ ?_;rw [eW,eH,hWn,hHn]
 refine ⟨Nat,fun i=>⟨[(19,i64 (i:Int)),(18,i64 (H:Int)),(3,.loc 2 0),(2,.loc 1 0),(1,.loc 0 0)],[(3,.arr 37 kd 4 (gr (ziY m) W (i*W))),(2,.box 28 [i64 (W:Int),i64 (H:Int),.own 3]),(1,.box 28 z7),(0,.box 28 (kj m))],4,54,0⟩,
  fun i=>i<=H,fun i=>H - i,0,Nat.zero_le _,?_,?_⟩
 ·exact kD [(0,some 0),(1,some 1),(2,some 2),(3,none)] ⟨by rw [Nat.zero_mul];rfl,rfl,rfl,rfl,trivial⟩
 intro i hi;have hi:i<=H:=hi;refine Br.mk (fun g=>?_) (fun g=>?_)
 ·have g:(i:Int) < (H:Int):=g
  have hiW:i*W+W<=H*W:=by
   have:=Nat.mul_le_mul_right W (show i+1<=H by omega)
   rwa [Nat.add_mul,Nat.one_mul] at this
  refine ⟨Nat,fun j=>⟨[(24,i64 (j:Int)),(23,i64 (W:Int)),(4,i64 (i:Int)),(19,i64 (i:Int)),(18,i64 (H:Int)),(3,.loc 2 0),(2,.loc 1 0),(1,.loc 0 0)],[(3,.arr 37 kd 4 (gr (ziY m) W (i*W+j))),(2,.box 28 [i64 (W:Int),i64 (H:Int),.own 3]),(1,.box 28 z7),(0,.box 28 (kj m))],4,54,0⟩,
   fun j=>j<=W,fun j=>W - j,0,Nat.zero_le _,?_,?_⟩
  ·exact zo [(0,some 0),(1,some 1),(2,some 2),(3,some 3)]
  intro j hj;have hj:j<=W:=hj;refine Br.mk (fun k=>?_) (fun k=>?_)
  ·have k:(j:Int) < (W:Int):=k
   refine ⟨Nat,fun n=>⟨[(27,i64 (n:Int)),(6,.loc 4 0),(5,i64 (j:Int)),(24,i64 (j:Int)),(23,i64 (W:Int)),(4,i64 (i:Int)),(19,i64 (i:Int)),(18,i64 (H:Int)),(3,.loc 2 0),(2,.loc 1 0),(1,.loc 0 0)],
    [(4,.box 75 (qdE (zjc m j i n))),(3,.arr 37 kd 4 (gr (ziY m) W (i*W+j))),(2,.box 28 [i64 (W:Int),i64 (H:Int),.own 3]),(1,.box 28 z7),(0,.box 28 (kj m))],5,54,0⟩,fun n=>n<=4,fun n=>4 - n,0,Nat.zero_le _,?_,?_⟩
   ·exact zo [(0,some 0),(1,some 1),(2,some 2),(3,some 3),(4,some 4)]
   intro n hn;have hn:n<=4:=hn;refine Br.mk (fun c=>?_) (fun c=>?_)
   ·have c:(n:Int) < 4:=c;refine Ar.o ?_;refine Dv.pos ⟨oM,dC⟩ ?_;(iterate 2 refine Ar.o ?_);refine Dv.pos ⟨oM,dC,by show (n:Int)<=9223372036854775807;omega⟩ ?_;refine Ar.o ?_;refine ze.t (zkd m (2*(j:Int)+(n:Int) % 2) (2*(i:Int)+(n:Int) / 2) 1 hm.1 (by unfold R64;omega) (by unfold R64;omega)) ?_;have hb:=zi2 hm j i n;refine ze.hand 4 _ _ _ rfl (zil (zjc m j i n) (tk m j i n) 1 (zeW hb oM) (zkN hm j i n).1 dC) rfl rfl rfl rfl ?_;refine Ar.o ?_
    exact ⟨n+1,by show n+1<=4;omega,zo [(0,some 0),(1,some 1),(2,some 2),(3,some 3),(4,some 4)],by show 4 - (n+1) < 4 - n;omega⟩
   ·have c:¬(n:Int) < 4:=c;obtain rfl:n=4:=oM;refine Dr.d ?_;refine ze.t (zki (zjc m j i 4) 4 (zi2 hm j i 4) dC) ?_;refine ⟨Pix,kd,[ziY m j i],rfl,Ob.mk (zgM _) ?_⟩;refine ⟨[ziY m j i],rfl,Ob.mk (zgN (by rw [zjs];omega)) ?_⟩;refine Ob.mk (by kernel_rfl) ?_;refine Ar.o ?_
    exact ⟨j+1,by show j+1<=W;omega,vm [(0,some 0),(1,some 1),(2,some 2),(3,some 6)] rfl rfl rfl ⟨rfl,rfl,rfl,rfl,rfl,rfl,rfl,rfl,trivial⟩
     ⟨congrArg (fun l=>some (Mem.arr 37 kd 4 l)) (zjR (show j < W by omega)),rfl,rfl,rfl,trivial⟩,by dsimp only;omega⟩
  ·have k:¬(j:Int) < (W:Int):=k;obtain rfl:j=W:=oM;refine Ar.o ?_;exact ⟨i+1,by show i+1<=H;omega,kD [(0,some 0),(1,some 1),(2,some 2),(3,some 3)] ⟨congrArg (fun n=>some (Mem.arr 37 kd 4 (gr (ziY m) j n))) (by rw [Nat.add_mul,Nat.one_mul]),rfl,rfl,rfl,trivial⟩,by dsimp only;omega⟩
 ·have g:¬(i:Int) < (H:Int):=g;obtain rfl:i=H:=oM;exact ⟨some 3,ziU (.cons (zge rfl) (.cons (zge rfl) (.cons (.own 3 rfl) .nil))),rfl,ziz _⟩
def zq(n:Int):List SV:=[i64 n]
def pL(p:Pix):List Int:=[p.r,p.g,p.b,p.a]
theorem pL_8{p:Pix}(hp:P8 p)(c:Nat):R8 ((pL p).getD c 0):=by
 obtain ⟨p1,p2,p3,p4⟩:=hp
 match c with
 | 0=>exact p1
 | 1=>exact p2
 | 2=>exact p3
 | 3=>exact p4
 | c+4=>exact (by decide:R8 0)
def zC(m:Img)(c:Nat)(i:Int):Int:=(pL (m.px.getD i.toNat zbK)).getD c 0
def yZ(m:Img)(c:Nat):SV:=.fn 75 [.ptr (kj m),.ptr [i64 (c:Int)]]
theorem zk(T:TypeId)(l:List Int):ut (.arr T zq 1 l):=fun _ _=>rfl
theorem zcx(m:Img)(c:Nat)(l:List Int)(lo n a b k:Nat)(hn:n<=1000000)(hl:lo+n<=l.length)(hab:a+k<=b)(hb:b+k<=n):
  zf Try.prog 105 [.win 0 1 (lo:Int) (n:Int),i64 (a:Int),i64 (b:Int),i64 (k:Int),yZ m c] [(0,.arr 3 zq 1 l)] (.tup []) [(0,.arr 3 zq 1 (qG l (lo+a) (lo+b) k))]:=by
 refine qA tok mix Try.func105 rfl rfl rfl (zk _ _) rfl ?_
 refine ⟨Nat×List Int,fun ⟨i,s⟩=>⟨[(10,i64 (i:Int)),(3,i64 (k:Int)),(2,i64 (b:Int)),(1,i64 (a:Int)),(0,.win 0 1 (lo:Int) (n:Int))],[(0,.arr 3 zq 1 s)],1,38,1⟩,
  fun z=>z.1<=k/\z.2=qG l (lo+a) (lo+b) z.1,fun z=>k - z.1,(0,l),⟨Nat.zero_le _,(zht ..).symm⟩,?_,?_⟩
 ·exact zo [(0,some 0)]
 rintro ⟨i,s⟩ ⟨hi,hs⟩
 have hi:i<=k:=hi;have hs:s=qG l (lo+a) (lo+b) i:=hs;have hsl:s.length=l.length:=by rw [hs,zW]
 refine Br.mk (fun g=>?_) (fun g=>?_)
 ·have g:(i:Int) < (k:Int):=g;refine Dr.d ?_;(iterate 3 refine Ar.o ?_);refine Ob.o ?_;refine Ob.o ?_;intro x hx;refine Ar.o ?_;refine Ob.o ?_;refine Ob.o ?_;intro y hy;refine Ob.o ?_;refine Ob.o ?_;intro u _;refine ⟨x,rfl,?_⟩;refine Ob.o ?_;refine Ob.mk (by rw [List.length_set];omega) ?_;intro u _;refine ⟨y,rfl,?_⟩;refine Ob.mk (by kernel_rfl) ?_;refine Ar.o ?_
  refine ⟨(i+1,(s.set ((lo:Int)+((a:Int)+(i:Int))).toNat x).set ((lo:Int)+((b:Int)+(i:Int))).toNat y),⟨by show i+1<=k;omega,?_⟩,zo [(0,some 0)],by dsimp only;omega⟩;show (s.set _ x).set _ y=_;have e1:((lo:Int)+((a:Int)+(i:Int))).toNat=lo+a+i:=oM;have e2:((lo:Int)+((b:Int)+(i:Int))).toNat=lo+b+i:=oM;rw [e2] at hx;rw [e1] at hy;rw [e1,e2,← qm hx,← qm hy,hs,zef oM oM]
 ·have g:¬(i:Int) < (k:Int):=g;obtain rfl:i=k:=oM;subst hs;exact ⟨rfl,.refl⟩
theorem zgO(m:Img)(c:Nat)(l:List Int)(lo n a d b:Nat)(hn:n<=1000000)(hl:lo+n<=l.length)(ha:a < d)(hd:d < b)(hb:b<=n):
  zf Try.prog 98 [.win 0 1 (lo:Int) (n:Int),i64 (a:Int),i64 (d:Int),i64 (b:Int),yZ m c] [(0,.arr 3 zq 1 l)] (.tup []) [(0,.arr 3 zq 1 (zU l (lo+a) (lo+d) (lo+b)))]:=by
 refine qA tok mix Try.func98 rfl rfl rfl (zk _ _) rfl ?_;(iterate 2 refine Ar.o ?_)
 refine ⟨Nat×Nat×List Int,fun ⟨i,j,s⟩=>⟨[(11,i64 (j:Int)),(10,i64 (i:Int)),(2,i64 (d:Int)),(4,yZ m c),(0,.win 0 1 (lo:Int) (n:Int))],[(0,.arr 3 zq 1 s)],1,58,1⟩,
  fun z=>(1<=z.1/\z.1<=d)/\(1<=z.2.1/\d+z.2.1<=b)/\z.2.2.length=l.length/\zU z.2.2 (lo+d - z.1) (lo+d) (lo+d+z.2.1)=zU l (lo+a) (lo+d) (lo+b),fun z=>z.1+z.2.1,(d - a,b - d,l),⟨by dsimp only;omega,by dsimp only;omega,rfl,?_⟩,?_,?_⟩
 ·dsimp only;rw [show lo+d - (d - a)=lo+a by omega,show lo+d+(b - d)=lo+b by omega]
 ·rw [show (d:Int) - (a:Int)=((d - a:Nat):Int) by omega,show (b:Int) - (d:Int)=((b - d:Nat):Int) by omega];exact zo [(0,some 0)]
 rintro ⟨i,j,s⟩ ⟨⟨hi1,hi2⟩,⟨hj1,hj2⟩,hs,he⟩
 have hi1:1<=i:=hi1;have hi2:i<=d:=hi2;have hj1:1<=j:=hj1;have hj2:d+j<=b:=hj2;have hs:s.length=l.length:=hs;have he:zU s (lo+d - i) (lo+d) (lo+d+j)=zU l (lo+a) (lo+d) (lo+b):=he;refine Br.mk (fun g=>?_) (fun g=>?_)
 ·have g:¬(i:Int)=(j:Int):=g;refine Br.mk (fun k=>?_) (fun k=>?_)
  ·have k:(j:Int) < (i:Int):=k;refine Ar.o ?_;rw [show (d:Int) - (i:Int)=((d - i:Nat):Int) by omega];refine ze.hand 0 _ _ _ rfl (zcx m c s lo n (d - i) d j hn oM oM oM) (zk _ _) (zk _ _) rfl rfl ?_;refine Ar.o ?_;rw [show (i:Int) - (j:Int)=((i - j:Nat):Int) by omega];refine ⟨(i - j,j,qG s (lo+(d - i)) (lo+d) j),⟨by dsimp only;omega,by dsimp only;omega,by dsimp only;rw [zW];exact hs,?_⟩,zo [(0,some 0)],by dsimp only;omega⟩;dsimp only;rw [show lo+(d - i)=lo+d - i by omega,zii oM oM oM,he]
  ·have k:¬(j:Int) < (i:Int):=k;(iterate 3 refine Ar.o ?_);rw [show (d:Int) - (i:Int)=((d - i:Nat):Int) by omega,show (d:Int)+(j:Int) - (i:Int)=((d+j - i:Nat):Int) by omega];refine ze.hand 0 _ _ _ rfl (zcx m c s lo n (d - i) (d+j - i) i hn oM oM oM) (zk _ _) (zk _ _) rfl rfl ?_;refine Ar.o ?_;rw [show (j:Int) - (i:Int)=((j - i:Nat):Int) by omega]
   refine ⟨(i,j - i,qG s (lo+(d - i)) (lo+(d+j - i)) i),⟨by dsimp only;omega,by dsimp only;omega,by dsimp only;rw [zW];exact hs,?_⟩,zo [(0,some 0)],by dsimp only;omega⟩;dsimp only;rw [show lo+(d - i)=lo+d - i by omega,show lo+(d+j - i)=lo+d+j - i by omega,zij oM oM oM,he]
 ·have g:¬¬(i:Int)=(j:Int):=g;obtain rfl:i=j:=oM;refine Ar.o ?_;rw [show (d:Int) - (i:Int)=((d - i:Nat):Int) by omega];refine ze.hand 0 _ _ _ rfl (zcx m c s lo n (d - i) d i hn oM oM oM) (zk _ _) (zk _ _) rfl rfl ?_;refine ⟨?_,.refl⟩;refine congrArg (fun q=>some (Mem.arr 3 zq 1 q)) ?_;rw [← he,show lo+(d - i)=lo+d - i by omega];exact zik oM
variable {key:Int->Int}
theorem zeh(p:Pix)(c:Nat)(hp:P8 p)(hc:c < 4):zf Try.prog 50 [.agg (kd p),i64 (c:Int)] [] (i64 ((pL p).getD c 0)) []:=by
 have h4:c=0∨c=1∨c=2∨c=3:=oM
 rcases h4 with rfl | rfl | rfl | rfl
 ·exact zeQ p hp
 ·exact zeR p hp
 ·exact zeS p hp
 ·exact zeT p hp
theorem px8{m:Img}(hp:∀q∈m.px,P8 q)(i:Nat):P8 (m.px.getD i zbK):=by
 by_cases h:i < m.px.length
 ·rw [List.getD_eq_getElem?_getD,List.getElem?_eq_getElem h];exact hp _ (List.getElem_mem _)
 ·rw [List.getD_eq_getElem?_getD,List.getElem?_eq_none oM];unfold P8;decide
theorem qN{m:Img}(hp:∀q∈m.px,P8 q)(c:Nat):jI (zC m c):=fun x=>by
 have:=pL_8 (px8 hp x.toNat) c;unfold zC;unfold R8 at this;omega
def InP(m:Img)(l:List Int):Prop:=∀x∈l,0<=x/\x < m.px.length
theorem InP.of{m:Img}{l l':List Int}(h:InP m l)(k:zX key l' l):InP m l':=fun x hx=>h x (k.mem.1 hx)
theorem InP.at{m:Img}{l:List Int}{i:Nat}{x:Int}(h:InP m l)(k:l[i]? =some x):0<=x/\x < m.px.length:=h x (List.mem_of_getElem? k)
theorem zdw(m:Img)(c:Nat)(x y:Int)(hp:∀q∈m.px,P8 q)(hc:c < 4)(hx:0<=x/\x < m.px.length)(hy:0<=y/\y < m.px.length):
  zf Try.prog 75 [i64 x,i64 y,.ptr (kj m),.ptr [i64 (c:Int)]] [] (i64 (zC m c x - zC m c y)) []:=by
 have k:=qN hp c;refine zh tok mix Try.func75 rfl rfl rfl ?_;refine Dr.k ?_;refine Ob.mk hx ?_;intro p h1;have e1:m.px.getD x.toNat zbK=p:=by rw [List.getD_eq_getElem?_getD,h1];rfl
 refine ze.t (zeh p c (e1 ▸ px8 hp x.toNat) hc) ?_;refine Ob.mk hy ?_;intro q h2;have e2:m.px.getD y.toNat zbK=q:=by rw [List.getD_eq_getElem?_getD,h2];rfl
 refine ze.t (zeh q c (e2 ▸ px8 hp y.toNat) hc) ?_;have f1:zC m c x=(pL p).getD c 0:=by unfold zC;rw [e1]
 have f2:zC m c y=(pL q).getD c 0:=by unfold zC;rw [e2]
 have k1:=k x;have k2:=k y;rw [← f1,← f2];refine Ar.o ?_;exact .refl
theorem zgP{l:List Int}{p q:Nat}(h0:1<=p)(hp:p<=q)(hq:q < l.length):
  ((zU l p q (q+1)).set p (gz (zU l p q (q+1)) (p - 1))).set (p - 1) (gz (zU l p q (q+1)) p)=zU l (p - 1) q (q+1):=by
 refine qi (by simp [zH]) fun i hi=>?_
 simp only [List.length_set,zH] at hi;simp only [zct,List.length_set,zH];rw [zP hi,zP hi,zP oM,zP oM];unfold jL
 grind
theorem zio{l:List Int}{a k:Nat}(ha:a<=k)(hk:k+1 < l.length):
  ((zU l a (a+1) (k+1)).set k (gz (zU l a (a+1) (k+1)) (k+1))).set (k+1) (gz (zU l a (a+1) (k+1)) k)=zU l a (a+1) (k+2):=by
 refine qi (by simp [zH]) fun i hi=>?_
 simp only [List.length_set,zH] at hi;simp only [zct,List.length_set,zH];rw [zP hi,zP hi,zP oM,zP oM];unfold jL
 grind
theorem zfF{l:List Int}{p q:Nat}(hp:p<=q)(hq:q < l.length):gz (zU l p q (q+1)) p=gz l q/\(∀i,i < p->gz (zU l p q (q+1)) i=gz l i):=by
 refine ⟨?_,fun i hi=>?_⟩
 ·rw [zP oM];unfold jL;rw [if_pos oM];congr 1;omega
 ·rw [zP oM];unfold jL;rw [if_neg oM,if_neg oM]
theorem zhV(m:Img)(c:Nat)(l:List Int)(lo n a b:Nat)(hp:∀q∈m.px,P8 q)(hc:c < 4)(hin:InP m l)(hn:n<=1000000)(hl:lo+n<=l.length)(ha:a<=b)(hb:b<=n):
  zf Try.prog 90 [.win 0 1 (lo:Int) (n:Int),i64 (a:Int),i64 (b:Int),yZ m c] [(0,.arr 3 zq 1 l)] (.tup []) [(0,.arr 3 zq 1 (kf (zC m c) l (lo+a) (lo+b)))]:=by
 have hk:=qN hp c;generalize hkey:zC m c=key at*;refine qA tok mix Try.func90 rfl rfl rfl (zk _ _) rfl ?_;refine Ar.o ?_
 refine ⟨Nat×List Int,fun ⟨i,s⟩=>⟨[(8,i64 (i:Int)),(3,yZ m c),(2,i64 (b:Int)),(1,i64 (a:Int)),(0,.win 0 1 (lo:Int) (n:Int))],[(0,.arr 3 zq 1 s)],1,53,1⟩,
  fun z=>a+1<=z.1/\z.1<=b+1/\qn key l z.2 (lo+a) (lo+b)/\qc key z.2 (lo+a) (lo+z.1),fun z=>b+1 - z.1,(a+1,l),⟨Nat.le_refl _,by dsimp only;omega,.refl,fun p q p1 p2 p3=>?_⟩,?_,?_⟩
 ·dsimp only at p3 ⊢;obtain rfl:p=q:=oM;exact Int.le_refl _
 ·exact zo [(0,some 0)]
 rintro ⟨i,s⟩ ⟨hi1,hi2,hkp,hsr⟩
 have hi1:a+1<=i:=hi1;have hkp:qn key l s (lo+a) (lo+b):=hkp;have hsr:qc key s (lo+a) (lo+i):=hsr;have hsl:s.length=l.length:=hkp.len;have hsi:InP m s:=hin.of hkp.same;refine Br.mk (fun g=>?_) (fun g=>?_)
 ·have g:(i:Int) < (b:Int):=g
  refine ⟨Nat×List Int,fun ⟨j,t⟩=>⟨[(9,i64 (j:Int)),(8,i64 (i:Int)),(3,yZ m c),(2,i64 (b:Int)),(1,i64 (a:Int)),(0,.win 0 1 (lo:Int) (n:Int))],[(0,.arr 3 zq 1 t)],1,53,1⟩,
   fun z=>a<=z.1/\z.1<=i/\z.2=zU s (lo+z.1) (lo+i) (lo+i+1)/\(z.1=i∨key (gz s (lo+i)) < key (gz s (lo+z.1))),fun z=>z.1,(i,s),⟨by dsimp only;omega,Nat.le_refl _,(yI (.inl ⟨rfl,oM⟩)).symm,.inl rfl⟩,?_,?_⟩
  ·exact zo [(0,some 0)]
  rintro ⟨j,t⟩ ⟨hj1,hj2,ht,hj3⟩
  have hj1:a<=j:=hj1;have hj2:j<=i:=hj2;have ht:t=zU s (lo+j) (lo+i) (lo+i+1):=ht;have hj3:j=i∨key (gz s (lo+i)) < key (gz s (lo+j)):=hj3;have htl:t.length=s.length:=by rw [ht,zH]
  obtain ⟨at1,at2⟩:=zfF (l:=s) (p:=lo+j) (q:=lo+i) oM oM;rw [← ht] at at1 at2
  have tin:∀p,p < s.length->0<=gz t p/\gz t p < m.px.length:=fun p h=>by
   rw [ht,zP h];unfold jL
   split
   ·exact hsi _ (yH oM)
   ·split
    ·exact hsi _ (yH oM)
    ·exact hsi _ (yH h)
  have stop:(j=a∨key (gz s (lo+j - 1))<=key (gz s (lo+i)))->∃x':Nat×List Int,(a+1<=x'.1/\x'.1<=b+1/\qn key l x'.2 (lo+a) (lo+b)/\qc key x'.2 (lo+a) (lo+x'.1))/\x'=(i+1,t):=fun h=>by
   have e:=zhQ hk (l:=s) (a:=lo+a) (i:=lo+j) (m:=lo+i) oM oM hsr oM oM;rw [← ht] at e;obtain ⟨k1,k2⟩:=zit hk (l:=s) (a:=lo+a) (b:=lo+i+1) oM oM;rw [← e] at k1 k2;exact ⟨_,⟨by dsimp only;omega,by dsimp only;omega,hkp.trans (k1.up (Nat.le_refl _) oM),k2⟩,rfl⟩
  refine Dr.d ?_;refine Br.mk (fun h=>?_) (fun h=>?_)
  ·have h:(a:Int) < (j:Int):=h;refine Ob.o ?_;refine Ob.o ?_;intro x hx;refine Ar.o ?_;refine Ob.o ?_;refine Ob.o ?_;intro y hy;have e1:((lo:Int)+(j:Int)).toNat=lo+j:=oM;have e2:((lo:Int)+((j:Int) - 1)).toNat=lo+j - 1:=oM;rw [e1] at hx;rw [e2] at hy;have x1:=qm hx;have y1:=qm hy;have x2:=tin _ (show lo+j < s.length by omega);have y2:=tin _ (show lo+j - 1 < s.length by omega);have y3:=at2 (lo+j - 1) oM;rw [x1] at at1 x2;rw [y1] at y3 y2;refine ze.t (zdw m c x y hp hc x2 y2) ?_;refine Ob.mk (by kernel_rfl) ?_;rw [hkey]
   refine Br.mk (fun q=>?_) (fun q=>?_)
   ·have q:key x - key y < 0:=q;refine Dr.d ?_;(iterate 2 refine Ar.o ?_);refine Ob.o ?_;refine Ob.o ?_;intro y' hy';refine Ob.o ?_;refine Ob.o ?_;intro x' hx';refine Ob.o ?_;refine Ob.o ?_;intro _ _;refine ⟨y',rfl,?_⟩;refine Ob.o ?_;refine Ob.mk (by rw [List.length_set];omega) ?_;intro _ _;refine ⟨x',rfl,?_⟩;refine Ob.mk (by kernel_rfl) ?_;refine Ar.o ?_;rw [show (j:Int) - 1=((j - 1:Nat):Int) by omega];refine ⟨(j - 1,_),⟨by show a<=j - 1;omega,by show j - 1<=i;omega,?_,.inr ?_⟩,zo [(0,some 0)],by dsimp only;omega⟩
    ·rw [e2] at hy';rw [e1] at hx';have e3:((lo:Int)+((j - 1:Nat):Int)).toNat=lo+j - 1:=oM;show (t.set _ y').set _ x'=_;rw [e1,e3,← qm hy',← qm hx',ht,zgP oM oM oM];congr 1;omega
    ·show key (gz s (lo+i)) < key (gz s (lo+(j - 1)));rw [show lo+(j - 1)=lo+j - 1 by omega,← at1,← y3];omega
   ·have q:¬key x - key y < 0:=q;refine Ar.o ?_;obtain ⟨x',h1,rfl⟩:=stop (.inr (by rw [← at1,← y3];omega));exact ⟨(i+1,t),h1,zo [(0,some 0)],by dsimp only;omega⟩
  ·have h:¬(a:Int) < (j:Int):=h;refine Ob.mk (by kernel_rfl) ?_;refine Ar.o ?_;obtain ⟨x',h1,rfl⟩:=stop (.inl oM);exact ⟨(i+1,t),h1,zo [(0,some 0)],by dsimp only;omega⟩
 ·have g:¬(i:Int) < (b:Int):=g;refine ⟨congrArg (fun q=>some (Mem.arr 3 zq 1 q)) ?_,.refl⟩;exact qU hk oM oM hkp (hsr.up (Nat.le_refl _) oM)
end Go.Gs
