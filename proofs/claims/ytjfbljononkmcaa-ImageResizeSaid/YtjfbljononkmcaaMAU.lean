/- Sums of pixels, their averages; halved pictures: plain. -/
import Derived.Test.YtjfbljononkmcaaMA
import Derived.Test.YtjfbljononkmcaaMAT
import Derived.Test.YtjfbljononkmcaaMAO
set_option maxRecDepth 100000
set_option maxHeartbeats 8000000
set_option linter.all false
namespace Go.Gs
structure Qd where
 r:Int
 g:Int
 b:Int
 a:Int
def qdE(q:Qd):List SV:=[i64 q.r,i64 q.g,i64 q.b,i64 q.a]
def zQ:Qd:=⟨0,0,0,0⟩
def u4(q:Qd)(p:Pix)(w:Int):Qd:=⟨q.r+w*p.r,q.g+w*p.g,q.b+w*p.b,q.a+w*p.a⟩
def zay(q:Qd)(n:Int):Pix:=⟨kJ q.r n,kJ q.g n,kJ q.b n,kJ q.a n⟩
def inQ(q:Qd)(n:Int):Prop:=(0<=q.r/\0<=q.g/\0<=q.b)/\(q.r<=q.a/\q.g<=q.a/\q.b<=q.a)/\q.a<=255*n
theorem zcR:inQ zQ 0:=by unfold inQ zQ;decide
theorem vz{w x y:Int}(hw:0<=w)(h:x<=y):w*x<=w*y:=Int.mul_le_mul_of_nonneg_left h hw
theorem zec{q:Qd}{n w:Int}{p:Pix}(h:inQ q n)(hp:P8 p)(ho:jG p)(hw:0<=w):inQ (u4 q p w) (n+w):=by
 obtain ⟨⟨h1,h2,h3⟩,⟨h4,h5,h6⟩,h7⟩:=h;obtain ⟨p1,p2,p3,p4⟩:=hp;obtain ⟨o1,o2,o3⟩:=ho;have a1:=Int.mul_nonneg hw p1.1;have a2:=Int.mul_nonneg hw p2.1;have a3:=Int.mul_nonneg hw p3.1;have b1:=vz hw o1;have b2:=vz hw o2;have b3:=vz hw o3;have c:=vz hw p4.2;unfold inQ u4;dsimp only;rw [Int.mul_add];omega
theorem zhm{q:Qd}{m n:Int}(h:inQ q m)(hn:m<=n):inQ q n:=by
 obtain ⟨h1,h2,h3⟩:=h;exact ⟨h1,h2,oM⟩
theorem zbT{a b n:Int}(ha:0<=a)(h:a<=b)(hn:0 < n):kJ a n<=kJ b n:=by
 rw [zax ha hn,zax oM hn];exact Int.ediv_le_ediv oM oM
theorem jJ{a n:Int}(ha:0<=a)(h:a<=255*n)(hn:0 < n):R8 (kJ a n):=by
 rw [zax ha hn];refine ⟨Int.ediv_nonneg oM oM,?_⟩;have:(2*a+n) / (2*n) < 256:=Int.ediv_lt_of_lt_mul oM oM;omega
theorem zfX{q:Qd}{n:Int}(h:inQ q n)(hn:0 < n):P8 (zay q n)/\jG (zay q n):=by
 obtain ⟨⟨h1,h2,h3⟩,⟨h4,h5,h6⟩,h7⟩:=h;exact ⟨⟨jJ h1 oM hn,jJ h2 oM hn,jJ h3 oM hn,jJ oM h7 hn⟩,zbT h1 h4 hn,zbT h2 h5 hn,zbT h3 h6 hn⟩
def gr(f:Nat->Nat->Pix)(w n:Nat):List Pix:=(List.range n).map fun k=>f (k % w) (k / w)
theorem zaz(f:Nat->Nat->Pix)(w n:Nat):(gr f w n).length=n:=by unfold gr;simp
theorem vA{f:Nat->Nat->Pix}{w i j:Nat}(h:j < w):gr f w (i*w+j)++[f j i]=gr f w (i*w+(j+1)):=by
 unfold gr;rw [show i*w+(j+1)=i*w+j+1 by omega,List.range_succ,List.map_append];have h1:(i*w+j) % w=j:=by rw [Nat.mul_comm,Nat.mul_add_mod];exact Nat.mod_eq_of_lt h
 have h2:(i*w+j) / w=i:=by rw [Nat.mul_comm,Nat.mul_add_div oM];simp [Nat.div_eq_of_lt h]
 simp [h1,h2]
theorem zhn{f:Nat->Nat->Pix}{w n:Nat}{p:Pix}(h:p∈gr f w n):∃x y,p=f x y/\(0 < w->x < w)/\y=y:=by
 obtain ⟨k,_,rfl⟩:=List.mem_map.1 h;exact ⟨k % w,k / w,rfl,fun hw=>Nat.mod_lt _ hw,rfl⟩
abbrev okM(m:Img):Prop:=qo m/\∀q∈m.px,P8 q
def tx(m:Img)(x y:Int):Pix:=jc m x y 1
theorem zho{m:Img}(hm:qo m)(x y:Int):tx m x y∈m.px:=by
 obtain ⟨m1,m2,m3,m4,_⟩:=hm
 have hw:∀{i n:Int},1<=n->(z6 i n 1).2=true:=fun {i n} h=>by
  unfold z6;rw [if_neg oM]
  split
  ·rfl
  ·rfl
 have h1:=hw (i:=x) m1.1;have h2:=hw (i:=y) m2.1;have hp:=jI (jH h1) (jH h2) m4;unfold tx jc;rw [if_pos ⟨h1,h2⟩,List.getD_eq_getElem?_getD,List.getElem?_eq_getElem oM];exact List.getElem_mem _
def tk(m:Img)(x y:Int)(k:Nat):Pix:=jc m (2*x+(k:Int) % 2) (2*y+(k:Int) / 2) 1
def jK(m:Img)(x y:Int):Nat->Qd
 | 0=>zQ
 | k+1=>u4 (jK m x y k) (tk m x y k) 1
theorem zed{m:Img}(hm:okM m)(x y:Int)(k:Nat):P8 (tk m x y k)/\jG (tk m x y k):=by
 have:=zho hm.1 (2*x+(k:Int) % 2) (2*y+(k:Int) / 2);exact ⟨hm.2 _ this,hm.1.2.2.2.2 _ this⟩
theorem jL{m:Img}(hm:okM m)(x y:Int):∀k:Nat,inQ (jK m x y k) k
 | 0=>zcR
 | k+1=>by
  have h:=zed hm x y k;have:=zec (jL hm x y k) h.1 h.2 (show (0:Int)<=1 by decide);rw [Int.natCast_add];exact this
def zH(n:Int):Int:=(n+1) / 2
def qH(m:Img)(x y:Nat):Pix:=zay (jK m x y 4) 4
def kL(m:Img):Img:=⟨zH m.w,zH m.h,gr (qH m) (zH m.w).toNat ((zH m.w).toNat*(zH m.h).toNat)⟩
theorem jM{n:Int}(h:1<=n):1<=zH n/\zH n<=n/\(2<=n->zH n < n):=by unfold zH;omega
theorem zfY{m:Img}(hm:okM m):okM (kL m):=by
 obtain ⟨m1,m2,m3,m4,_⟩:=id hm.1;have a:=jM m1.1;have b:=jM m2.1
 have h4:∀q∈(kL m).px,P8 q/\jG q:=fun q hq=>by
  obtain ⟨x,y,rfl,_⟩:=zhn hq;exact zfX (jL hm x y 4) dC
 refine ⟨⟨⟨a.1,by show zH m.w<=_;omega⟩,⟨b.1,by show zH m.h<=_;omega⟩,?_,?_,fun q hq=>(h4 q hq).2⟩,fun q hq=>(h4 q hq).1⟩
 ·have:zH m.w*zH m.h<=m.w*m.h:=Int.mul_le_mul a.2.1 b.2.1 oM oM;show zH m.w*zH m.h<=_;omega
 ·show ((gr (qH m) (zH m.w).toNat ((zH m.w).toNat*(zH m.h).toNat)).length:Int)=zH m.w*zH m.h;rw [zaz,Int.natCast_mul,Int.toNat_of_nonneg oM,Int.toNat_of_nonneg oM]
open Go.Proofs
def yD(q:Qd)(p:Pix)(w:Int):Nat->Qd
 | 0=>q
 | 1=>⟨q.r+w*p.r,q.g,q.b,q.a⟩
 | 2=>⟨q.r+w*p.r,q.g+w*p.g,q.b,q.a⟩
 | 3=>⟨q.r+w*p.r,q.g+w*p.g,q.b+w*p.b,q.a⟩
 | _=>u4 q p w
def zdz(q:Qd):Prop:=(0<=q.r/\q.r<=1000000000000000)/\(0<=q.g/\q.g<=1000000000000000)/\(0<=q.b/\q.b<=1000000000000000)/\(0<=q.a/\q.a<=1000000000000000)
theorem vB{q:Qd}{n:Int}(h:inQ q n)(hn:n<=1000000000000):zdz q:=by
 obtain ⟨⟨h1,h2,h3⟩,⟨h4,h5,h6⟩,h7⟩:=h;exact ⟨⟨h1,oM⟩,⟨h2,oM⟩,⟨h3,oM⟩,oM,oM⟩
theorem zfZ(q:Qd)(p:Pix)(w:Int)(hq:zdz q)(hp:P8 p)(hw:0<=w/\w<=1000000000000):
  zf Try.prog 56 [.loc 0 0,.agg (zb p),i64 w] [(0,.box 75 (qdE q))] (.tup []) [(0,.box 75 (qdE (u4 q p w)))]:=by
 obtain ⟨q1,q2,q3,q4⟩:=hq;obtain ⟨p1,p2,p3,p4⟩:=id hp;have m1:=kZ hw.1 hw.2 p1.1 p1.2;have m2:=kZ hw.1 hw.2 p2.1 p2.2;have m3:=kZ hw.1 hw.2 p3.1 p3.2;have m4:=kZ hw.1 hw.2 p4.1 p4.2;refine zeJ tok mix Try.func56 rfl rfl rfl rfl rfl ?_;refine ⟨Nat,fun i=>⟨[(7,i64 (i:Int)),(4,.loc 1 0),(2,i64 w),(0,.loc 0 0)],[(1,.box 37 (zb p)),(0,.box 75 (qdE (yD q p w i)))],2,24,1⟩,fun i=>i<=4,fun i=>4 - i,0,Nat.zero_le _,?_,?_⟩
 ·exact z3 [(0,some 0),(1,some 1)]
 intro i hi;have hi:i<=4:=hi;have h5:i=0∨i=1∨i=2∨i=3∨i=4:=oM
 rcases h5 with rfl | rfl | rfl | rfl | rfl
 ·refine Br.y ?_;refine Dr.d ?_;refine zc.t (zgD p hp) ?_;refine Ar.o ?_;refine Ar.fit (by show _<=q.r+w*p.r/\q.r+w*p.r<=_;omega) ?_;refine Ob.mk (by kernel_rfl) ?_;refine Ar.fit dC ?_;exact ⟨1,dC,z3 [(0,some 0),(1,some 1)],dC⟩
 ·refine Br.y ?_;refine Dr.d ?_;refine zc.t (zgE p hp) ?_;refine Ar.o ?_;refine Ar.fit (by show _<=q.g+w*p.g/\q.g+w*p.g<=_;omega) ?_;refine Ob.mk (by kernel_rfl) ?_;refine Ar.fit dC ?_;exact ⟨2,dC,z3 [(0,some 0),(1,some 1)],dC⟩
 ·refine Br.y ?_;refine Dr.d ?_;refine zc.t (zgF p hp) ?_;refine Ar.o ?_;refine Ar.fit (by show _<=q.b+w*p.b/\q.b+w*p.b<=_;omega) ?_;refine Ob.mk (by kernel_rfl) ?_;refine Ar.fit dC ?_;exact ⟨3,dC,z3 [(0,some 0),(1,some 1)],dC⟩
 ·refine Br.y ?_;refine Dr.d ?_;refine zc.t (zgG p hp) ?_;refine Ar.o ?_;refine Ar.fit (by show _<=q.a+w*p.a/\q.a+w*p.a<=_;omega) ?_;refine Ob.mk (by kernel_rfl) ?_;refine Ar.fit dC ?_;exact ⟨4,dC,z3 [(0,some 0),(1,some 1)],dC⟩
 ·refine Br.mk (fun k=>absurd k dC) (fun _=>?_);exact ⟨rfl,.refl⟩
theorem zg1{a n:Int}(ha:0<=a)(h:a<=255*n)(hn:0 < n):yg (kJ a n)=kJ a n:=by
 have:=jJ ha h hn;unfold yg;rw [if_pos oM]
theorem zg2(q:Qd)(n:Int)(h:inQ q n)(hn:0 < n/\n<=1000000000000):zf Try.prog 57 [.agg (qdE q),i64 n] [] (.agg (zb (zay q n))) []:=by
 obtain ⟨⟨h1,h2,h3⟩,⟨h4,h5,h6⟩,h7⟩:=h
 have one:∀c v:Int,0<=v->v<=255*n->zf Try.prog 67 [i64 v,i64 n] [] (i64 (kJ v n)) []/\R8 (kJ v n):=fun c v v1 v2=>by
  have:=zdu v n (by unfold R64;omega) (by unfold R64;omega);rw [zg1 v1 v2 hn.1] at this;exact ⟨this,jJ v1 v2 hn.1⟩
 have b0:zf Try.prog 71 [i64 0,.ptr (qdE q),.ptr [i64 n]] [] (u8 (kJ q.r n)) []:=by
  obtain ⟨k1,k2⟩:=one 0 q.r oM oM;refine zk tok mix Try.func71 rfl rfl rfl ?_;refine Dr.k ?_;refine zc.t k1 ?_;refine Ar.o ?_;exact .refl
 have b1:zf Try.prog 71 [i64 1,.ptr (qdE q),.ptr [i64 n]] [] (u8 (kJ q.g n)) []:=by
  obtain ⟨k1,k2⟩:=one 0 q.g oM oM;refine zk tok mix Try.func71 rfl rfl rfl ?_;refine Dr.k ?_;refine zc.t k1 ?_;refine Ar.o ?_;exact .refl
 have b2:zf Try.prog 71 [i64 2,.ptr (qdE q),.ptr [i64 n]] [] (u8 (kJ q.b n)) []:=by
  obtain ⟨k1,k2⟩:=one 0 q.b oM oM;refine zk tok mix Try.func71 rfl rfl rfl ?_;refine Dr.k ?_;refine zc.t k1 ?_;refine Ar.o ?_;exact .refl
 have b3:zf Try.prog 71 [i64 3,.ptr (qdE q),.ptr [i64 n]] [] (u8 (kJ q.a n)) []:=by
  obtain ⟨k1,k2⟩:=one 0 q.a oM oM;refine zk tok mix Try.func71 rfl rfl rfl ?_;refine Dr.k ?_;refine zc.t k1 ?_;refine Ar.o ?_;exact .refl
 refine zk tok mix Try.func57 rfl rfl rfl ?_;refine BoxC.own ?_;refine zc.t b0 ?_;refine zc.t b1 ?_;refine zc.t b2 ?_;refine zc.t b3 ?_;exact .refl
theorem zbU(p:Pix):([p]:List Pix).length=1/\(1:Nat)<=281474976710656/\1*4<=16777216/\0 < 4/\∀x∈[p],(zb x).length=4/\z8 (zb x)=true/\kB.flats (zb x)=true:=
 ⟨rfl,dC,dC,dC,fun _ _=>⟨rfl,rfl,rfl⟩⟩
theorem zbV{l:List Pix}{p:Pix}(h:l.length<=1000000):((l.length:Int)+(([p]:List Pix).length:Int))*4<=140737488355328/\l.length+([p]:List Pix).length<=281474976710656/\0 < 4/\∀x∈[p],(zb x).length=4:=
 ⟨by rw [List.length_singleton];omega,by rw [List.length_singleton];omega,dC,fun _ _=>rfl⟩
abbrev z7:List SV:=vals [.int .i64 0,.int .i64 0,.slice none 0 0]
theorem qI(m:Img)(hm:okM m):zf Try.prog 60 [.agg (ze m)] [] (.agg [i64 (zH m.w),i64 (zH m.h),.own 0]) [(0,.arr 37 zb 4 (kL m).px)]:=by
 obtain ⟨m1,m2,m3,m4,_⟩:=id hm.1;have hW:=jM m1.1;have hH:=jM m2.1;have eW:(m.w+1) / 2=zH m.w:=rfl;have eH:(m.h+1) / 2=zH m.h:=rfl;obtain ⟨W,hWn⟩:∃W:Nat,zH m.w=(W:Int):=⟨(zH m.w).toNat,oM⟩;obtain ⟨H,hHn⟩:∃H:Nat,zH m.h=(H:Int):=⟨(zH m.h).toNat,oM⟩
 have epx:(kL m).px=gr (qH m) W (H*W):=by
  unfold kL;rw [hWn,hHn,Nat.mul_comm H W];rfl
 have hWH:H*W<=65536:=by
  have:zH m.w*zH m.h<=m.w*m.h:=Int.mul_le_mul hW.2.1 hH.2.1 oM oM;rw [hWn,hHn,← Int.natCast_mul,Nat.mul_comm] at this;omega
 rw [epx];refine zZ tok mix Try.func60 rfl rfl rfl ?_;refine Ar.o ?_;refine Dv.pos ⟨oM,dC,by show m.w+1<=9223372036854775807;omega⟩ ?_;refine Ar.o ?_;refine Dv.pos ⟨oM,dC,by show m.h+1<=9223372036854775807;omega⟩ ?_;rw [eW,eH,hWn,hHn]
 refine ⟨Nat,fun i=>⟨[(19,i64 (i:Int)),(18,i64 (H:Int)),(3,.loc 2 0),(2,.loc 1 0),(1,.loc 0 0)],[(3,.arr 37 zb 4 (gr (qH m) W (i*W))),(2,.box 28 [i64 (W:Int),i64 (H:Int),.own 3]),(1,.box 28 z7),(0,.box 28 (ze m))],4,54,0⟩,
  fun i=>i<=H,fun i=>H - i,0,Nat.zero_le _,?_,?_⟩
 ·exact zi [(0,some 0),(1,some 1),(2,some 2),(3,none)] ⟨by rw [Nat.zero_mul];rfl,rfl,rfl,rfl,trivial⟩
 intro i hi;have hi:i<=H:=hi;refine Br.mk (fun g=>?_) (fun g=>?_)
 ·have g:(i:Int) < (H:Int):=g
  have hiW:i*W+W<=H*W:=by
   have:=Nat.mul_le_mul_right W (show i+1<=H by omega)
   rwa [Nat.add_mul,Nat.one_mul] at this
  refine ⟨Nat,fun j=>⟨[(24,i64 (j:Int)),(23,i64 (W:Int)),(4,i64 (i:Int)),(19,i64 (i:Int)),(18,i64 (H:Int)),(3,.loc 2 0),(2,.loc 1 0),(1,.loc 0 0)],[(3,.arr 37 zb 4 (gr (qH m) W (i*W+j))),(2,.box 28 [i64 (W:Int),i64 (H:Int),.own 3]),(1,.box 28 z7),(0,.box 28 (ze m))],4,54,0⟩,
   fun j=>j<=W,fun j=>W - j,0,Nat.zero_le _,?_,?_⟩
  ·exact z3 [(0,some 0),(1,some 1),(2,some 2),(3,some 3)]
  intro j hj;have hj:j<=W:=hj;refine Br.mk (fun k=>?_) (fun k=>?_)
  ·have k:(j:Int) < (W:Int):=k
   refine ⟨Nat,fun n=>⟨[(27,i64 (n:Int)),(6,.loc 4 0),(5,i64 (j:Int)),(24,i64 (j:Int)),(23,i64 (W:Int)),(4,i64 (i:Int)),(19,i64 (i:Int)),(18,i64 (H:Int)),(3,.loc 2 0),(2,.loc 1 0),(1,.loc 0 0)],
    [(4,.box 75 (qdE (jK m j i n))),(3,.arr 37 zb 4 (gr (qH m) W (i*W+j))),(2,.box 28 [i64 (W:Int),i64 (H:Int),.own 3]),(1,.box 28 z7),(0,.box 28 (ze m))],5,54,0⟩,fun n=>n<=4,fun n=>4 - n,0,Nat.zero_le _,?_,?_⟩
   ·exact z3 [(0,some 0),(1,some 1),(2,some 2),(3,some 3),(4,some 4)]
   intro n hn;have hn:n<=4:=hn;refine Br.mk (fun c=>?_) (fun c=>?_)
   ·have c:(n:Int) < 4:=c;refine Ar.o ?_;refine Dv.pos ⟨oM,dC⟩ ?_;(iterate 2 refine Ar.o ?_);refine Dv.pos ⟨oM,dC,by show (n:Int)<=9223372036854775807;omega⟩ ?_;refine Ar.o ?_;refine zc.t (zfW m (2*(j:Int)+(n:Int) % 2) (2*(i:Int)+(n:Int) / 2) 1 hm.1 (by unfold R64;omega) (by unfold R64;omega)) ?_;have hb:=jL hm j i n;refine zc.hand 4 _ _ _ rfl (zfZ (jK m j i n) (tk m j i n) 1 (vB hb oM) (zed hm j i n).1 dC) rfl rfl rfl rfl ?_;refine Ar.o ?_
    exact ⟨n+1,by show n+1<=4;omega,z3 [(0,some 0),(1,some 1),(2,some 2),(3,some 3),(4,some 4)],by show 4 - (n+1) < 4 - n;omega⟩
   ·have c:¬(n:Int) < 4:=c;obtain rfl:n=4:=oM;refine Dr.d ?_;refine zc.t (zg2 (jK m j i 4) 4 (jL hm j i 4) dC) ?_;refine ⟨Pix,zb,[qH m j i],rfl,Ob.mk (zbU _) ?_⟩;refine ⟨[qH m j i],rfl,Ob.mk (zbV (by rw [zaz];omega)) ?_⟩;refine Ob.mk (by kernel_rfl) ?_;refine Ar.o ?_
    exact ⟨j+1,by show j+1<=W;omega,qh [(0,some 0),(1,some 1),(2,some 2),(3,some 6)] rfl rfl rfl ⟨rfl,rfl,rfl,rfl,rfl,rfl,rfl,rfl,trivial⟩
     ⟨congrArg (fun l=>some (Mem.arr 37 zb 4 l)) (vA (show j < W by omega)),rfl,rfl,rfl,trivial⟩,by dsimp only;omega⟩
  ·have k:¬(j:Int) < (W:Int):=k;obtain rfl:j=W:=oM;refine Ar.o ?_;exact ⟨i+1,by show i+1<=H;omega,zi [(0,some 0),(1,some 1),(2,some 2),(3,some 3)] ⟨congrArg (fun n=>some (Mem.arr 37 zb 4 (gr (qH m) j n))) (by rw [Nat.add_mul,Nat.one_mul]),rfl,rfl,rfl,trivial⟩,by dsimp only;omega⟩
 ·have g:¬(i:Int) < (H:Int):=g;obtain rfl:i=H:=oM;exact ⟨some 3,jF (.cons (z4 rfl) (.cons (z4 rfl) (.cons (.own 3 rfl) .nil))),rfl,kF _⟩
def jN(n:Int):List SV:=[i64 n]
def pL(p:Pix):List Int:=[p.r,p.g,p.b,p.a]
def qL(q:Qd):List Int:=[q.r,q.g,q.b,q.a]
theorem pL_at{p:Pix}{c:Nat}{x:Int}(h:(pL p)[c]? =some x):(pL p).getD c 0=x:=by rw [List.getD_eq_getElem?_getD,h];rfl
theorem pL_8{p:Pix}(hp:P8 p)(c:Nat):R8 ((pL p).getD c 0):=by
 obtain ⟨p1,p2,p3,p4⟩:=hp
 match c with
 | 0=>exact p1
 | 1=>exact p2
 | 2=>exact p3
 | 3=>exact p4
 | c+4=>exact (by decide:R8 0)
theorem zee{q:Qd}{p:Pix}{w:Int}{c:Nat}{x:Int}(h:(qL (yD q p w c))[c]? =some x):x=(qL q).getD c 0/\(qL (yD q p w c)).set c (x+w*(pL p).getD c 0)=qL (yD q p w (c+1)):=by
 match c,h with
 | 0,h=>cases h;exact ⟨rfl,rfl⟩
 | 1,h=>cases h;exact ⟨rfl,rfl⟩
 | 2,h=>cases h;exact ⟨rfl,rfl⟩
 | 3,h=>cases h;exact ⟨rfl,rfl⟩
 | c+4,h=>cases h
theorem zf0{q:Qd}(h:zdz q)(c:Nat):0<=(qL q).getD c 0/\(qL q).getD c 0<=1000000000000000:=by
 obtain ⟨p1,p2,p3,p4⟩:=h
 match c with
 | 0=>exact p1
 | 1=>exact p2
 | 2=>exact p3
 | 3=>exact p4
 | c+4=>exact (by decide:(0:Int)<=0/\(0:Int)<=1000000000000000)
theorem yE(q:Qd):(qL q).length=4:=rfl
theorem zaA(a b c d:Int):([a,b,c,d]:List Int).length=4/\(4:Nat)<=281474976710656/\4*1<=16777216/\0 < 1/\∀x∈[a,b,c,d],(jN x).length=1/\z8 (jN x)=true/\kB.flats (jN x)=true:=
 ⟨rfl,dC,dC,dC,fun _ _=>⟨rfl,rfl,rfl⟩⟩
theorem zef(p:Pix)(c:Nat)(hp:P8 p)(hc:c < 4):zf Try.prog 64 [.agg (zb p),i64 (c:Int)] [] (i64 ((pL p).getD c 0)) []:=by
 obtain ⟨p1,p2,p3,p4⟩:=hp;refine zk tok mix Try.func64 rfl rfl rfl ?_;(iterate 4 refine Ar.o ?_);refine ⟨Int,jN,pL p,rfl,Ob.mk (zaA _ _ _ _) ?_⟩;refine Ob.mk ⟨oM,by show (c:Int) < 4;omega⟩ ?_;refine Ob.mk ⟨oM,by show (c:Int) < 4;omega⟩ ?_;intro x hx;exact zz (pL_at hx).symm
theorem zeg{a n:Int}(ha:0<=a)(h:a<=255*n)(hn:0 < n/\n<=1000000000000):zf Try.prog 70 [i64 a,i64 n] [] (i64 (kJ a n)) []:=by
 have:=zcO a n (by unfold R64;omega) (by unfold R64;omega)
 rwa [zg1 ha h hn.1] at this
theorem zf1(q:Qd)(n:Int)(h:inQ q n)(hn:0 < n/\n<=1000000000000):zf Try.prog 65 [.sl jN (qL q),i64 n] [] (.agg (zb (zay q n))) []:=by
 have hav:=zfX h hn.1;obtain ⟨⟨r1,r2,r3,r4⟩,_⟩:=hav;obtain ⟨⟨h1,h2,h3⟩,⟨h4,h5,h6⟩,h7⟩:=h;refine zk tok mix Try.func65 rfl rfl rfl ?_;refine Dr.k ?_;refine Ob.mk (by show (0:Int)<=0/\(0:Int) < 4;decide) ?_;intro x hx
 cases hx
 refine zc.t (zeg h1 oM hn) ?_;refine Ar.fit r1 ?_;refine Ob.mk (by show (0:Int)<=1/\(1:Int) < 4;decide) ?_;intro x hx
 cases hx
 refine zc.t (zeg h2 oM hn) ?_;refine Ar.fit r2 ?_;refine Ob.mk (by show (0:Int)<=2/\(2:Int) < 4;decide) ?_;intro x hx
 cases hx
 refine zc.t (zeg h3 oM hn) ?_;refine Ar.fit r3 ?_;refine Ob.mk (by show (0:Int)<=3/\(3:Int) < 4;decide) ?_;intro x hx
 cases hx
 refine zc.t (zeg (show 0<=q.a by omega) h7 hn) ?_;refine Ar.fit r4 ?_;exact .refl
theorem zgH{x z:Int}(hx:0<=x/\x<=1000000000000000)(hz:R8 z): -9223372036854775808<=x+z/\x+z<=9223372036854775807:=oM
theorem zf2(m:Img)(x y:Int)(n:Nat):qL (yD (jK m x y n) (tk m x y n) 1 4)=qL (jK m x y (n+1)):=rfl
theorem zeX(m:Img)(hm:okM m):zf Try.prog 61 [.agg (ze m)] [] (.agg [i64 (zH m.w),i64 (zH m.h),.own 0]) [(0,.arr 37 zb 4 (kL m).px)]:=by
 obtain ⟨m1,m2,m3,m4,_⟩:=id hm.1;have hW:=jM m1.1;have hH:=jM m2.1;have eW:(m.w+1) / 2=zH m.w:=rfl;have eH:(m.h+1) / 2=zH m.h:=rfl;obtain ⟨W,hWn⟩:∃W:Nat,zH m.w=(W:Int):=⟨(zH m.w).toNat,oM⟩;obtain ⟨H,hHn⟩:∃H:Nat,zH m.h=(H:Int):=⟨(zH m.h).toNat,oM⟩
 have epx:(kL m).px=gr (qH m) W (H*W):=by
  unfold kL;rw [hWn,hHn,Nat.mul_comm H W];rfl
 have hWH:H*W<=65536:=by
  have:zH m.w*zH m.h<=m.w*m.h:=Int.mul_le_mul hW.2.1 hH.2.1 oM oM;rw [hWn,hHn,← Int.natCast_mul,Nat.mul_comm] at this;omega
 rw [epx];refine zZ tok mix Try.func61 rfl rfl rfl ?_;refine Ar.o ?_;refine Dv.pos ⟨oM,dC,by show m.w+1<=9223372036854775807;omega⟩ ?_;refine Ar.o ?_;refine Dv.pos ⟨oM,dC,by show m.h+1<=9223372036854775807;omega⟩ ?_;rw [eW,eH,hWn,hHn]
 refine ⟨Nat,fun i=>⟨[(4,i64 (i:Int)),(3,.loc 2 0),(2,.loc 1 0),(1,.loc 0 0)],[(3,.arr 37 zb 4 (gr (qH m) W (i*W))),(2,.box 28 [i64 (W:Int),i64 (H:Int),.own 3]),(1,.box 28 z7),(0,.box 28 (ze m))],4,71,0⟩,
  fun i=>i<=H,fun i=>H - i,0,Nat.zero_le _,?_,?_⟩
 ·exact zi [(0,some 0),(1,some 1),(2,some 2),(3,none)] ⟨by rw [Nat.zero_mul];rfl,rfl,rfl,rfl,trivial⟩
 intro i hi;have hi:i<=H:=hi;refine Br.mk (fun g=>?_) (fun g=>?_)
 ·have g:(i:Int) < (H:Int):=g
  have hiW:i*W+W<=H*W:=by
   have:=Nat.mul_le_mul_right W (show i+1<=H by omega)
   rwa [Nat.add_mul,Nat.one_mul] at this
  refine ⟨Nat,fun j=>⟨[(5,i64 (j:Int)),(4,i64 (i:Int)),(3,.loc 2 0),(2,.loc 1 0),(1,.loc 0 0)],[(3,.arr 37 zb 4 (gr (qH m) W (i*W+j))),(2,.box 28 [i64 (W:Int),i64 (H:Int),.own 3]),(1,.box 28 z7),(0,.box 28 (ze m))],4,71,0⟩,
   fun j=>j<=W,fun j=>W - j,0,Nat.zero_le _,?_,?_⟩
  ·exact z3 [(0,some 0),(1,some 1),(2,some 2),(3,some 3)]
  intro j hj;have hj:j<=W:=hj;refine Br.mk (fun k=>?_) (fun k=>?_)
  ·have k:(j:Int) < (W:Int):=k;refine ⟨Int,jN,[0,0,0,0],rfl,Ob.mk (zaA _ _ _ _) ?_⟩
   refine ⟨Nat,fun n=>⟨[(7,i64 (n:Int)),(6,.own 4),(5,i64 (j:Int)),(4,i64 (i:Int)),(3,.loc 2 0),(2,.loc 1 0),(1,.loc 0 0)],
    [(4,.arr 3 jN 1 (qL (jK m j i n))),(3,.arr 37 zb 4 (gr (qH m) W (i*W+j))),(2,.box 28 [i64 (W:Int),i64 (H:Int),.own 3]),(1,.box 28 z7),(0,.box 28 (ze m))],5,71,0⟩,fun n=>n<=4,fun n=>4 - n,0,Nat.zero_le _,?_,?_⟩
   ·exact z3 [(0,some 0),(1,some 1),(2,some 2),(3,some 3),(4,some 4)]
   intro n hn;have hn:n<=4:=hn;refine Br.mk (fun c=>?_) (fun c=>?_)
   ·have c:(n:Int) < 4:=c;refine Ar.o ?_;refine Dv.pos ⟨oM,dC⟩ ?_;(iterate 2 refine Ar.o ?_);refine Dv.pos ⟨oM,dC,by show (n:Int)<=9223372036854775807;omega⟩ ?_;refine Ar.o ?_;refine zc.t (zeW m (2*(j:Int)+(n:Int) % 2) (2*(i:Int)+(n:Int) / 2) 1 hm.1 (by unfold R64;omega) (by unfold R64;omega)) ?_;have hb:=vB (jL hm j i n) oM
    refine ⟨Nat,fun c=>⟨[(9,i64 (c:Int)),(8,.loc 5 0),(7,i64 (n:Int)),(6,.own 4),(5,i64 (j:Int)),(4,i64 (i:Int)),(3,.loc 2 0),(2,.loc 1 0),(1,.loc 0 0)],
     [(5,.box 37 (zb (tk m j i n))),(4,.arr 3 jN 1 (qL (yD (jK m j i n) (tk m j i n) 1 c))),(3,.arr 37 zb 4 (gr (qH m) W (i*W+j))),(2,.box 28 [i64 (W:Int),i64 (H:Int),.own 3]),(1,.box 28 z7),(0,.box 28 (ze m))],6,71,0⟩,
     fun c=>c<=4,fun c=>4 - c,0,Nat.zero_le _,?_,?_⟩
    ·exact z3 [(0,some 0),(1,some 1),(2,some 2),(3,some 3),(4,some 4),(5,some 5)]
    intro u hu;have hu:u<=4:=hu;refine Br.mk (fun v=>?_) (fun v=>?_)
    ·have v:(u:Int) < 4:=v;refine Dr.d ?_;refine Ob.mk ⟨oM,by rw [yE];exact v⟩ ?_;refine Ob.mk ⟨oM,by rw [yE];exact v⟩ ?_;intro x hx;have hx:(qL (yD (jK m j i n) (tk m j i n) 1 u))[u]? =some x:=hx;refine zc.t (zef (tk m j i n) u (zed hm j i n).1 oM) ?_;refine Ar.fit (zgH (by rw [(zee hx).1];exact zf0 hb u) (pL_8 (zed hm j i n).1 u)) ?_;refine Ob.mk ⟨oM,by rw [yE];exact v⟩ ?_;refine Ob.mk ⟨oM,by rw [yE];exact v⟩ ?_;intro y _;refine ⟨x+(pL (tk m j i n)).getD u 0,rfl,?_⟩;refine Ob.mk (by kernel_rfl) ?_;refine Ar.o ?_
     refine ⟨u+1,by show u+1<=4;omega,qh [(0,some 0),(1,some 1),(2,some 2),(3,some 3),(4,some 4),(5,some 5)] rfl rfl rfl ⟨rfl,rfl,rfl,rfl,rfl,rfl,rfl,rfl,rfl,trivial⟩
      ⟨rfl,congrArg (fun l=>some (Mem.arr 3 jN 1 l)) (by rw [← (zee hx).2,Int.one_mul];rfl),rfl,rfl,rfl,rfl,trivial⟩,by show 4 - (u+1) < 4 - u;omega⟩
    ·have v:¬(u:Int) < 4:=v;have hu4:u=4:=oM;refine Ar.o ?_;exact ⟨n+1,by show n+1<=4;omega,zi [(0,some 0),(1,some 1),(2,some 2),(3,some 3),(4,some 4)] ⟨congrArg (fun l=>some (Mem.arr 3 jN 1 l)) ((congrArg (fun c=>qL (yD (jK m j i n) (tk m j i n) 1 c)) hu4).trans (zf2 m j i n)),rfl,rfl,rfl,rfl,trivial⟩,by show 4 - (n+1) < 4 - n;omega⟩
   ·have c:¬(n:Int) < 4:=c;obtain rfl:n=4:=oM;refine Dr.d ?_;refine zc.t (zf1 (jK m j i 4) 4 (jL hm j i 4) dC) ?_;refine ⟨Pix,zb,[qH m j i],rfl,Ob.mk (zbU _) ?_⟩;refine ⟨[qH m j i],rfl,Ob.mk (zbV (by rw [zaz];omega)) ?_⟩;refine Ob.mk (by kernel_rfl) ?_;refine Ar.o ?_
    exact ⟨j+1,by show j+1<=W;omega,qh [(0,some 0),(1,some 1),(2,some 2),(3,some 6)] rfl rfl rfl ⟨rfl,rfl,rfl,rfl,rfl,trivial⟩
     ⟨congrArg (fun l=>some (Mem.arr 37 zb 4 l)) (vA (show j < W by omega)),rfl,rfl,rfl,trivial⟩,by dsimp only;omega⟩
  ·have k:¬(j:Int) < (W:Int):=k;obtain rfl:j=W:=oM;refine Ar.o ?_;exact ⟨i+1,by show i+1<=H;omega,zi [(0,some 0),(1,some 1),(2,some 2),(3,some 3)] ⟨congrArg (fun n=>some (Mem.arr 37 zb 4 (gr (qH m) j n))) (by rw [Nat.add_mul,Nat.one_mul]),rfl,rfl,rfl,trivial⟩,by dsimp only;omega⟩
 ·have g:¬(i:Int) < (H:Int):=g;obtain rfl:i=H:=oM;exact ⟨some 3,jF (.cons (z4 rfl) (.cons (z4 rfl) (.cons (.own 3 rfl) .nil))),rfl,kF _⟩
theorem zeY(m:Img)(hm:okM m):zf Try.prog 61 [.agg (ze m)] [] (.agg (ze (kL m))) []:=(zeX m hm).plain rfl
def yd(m:Img):Prop:=1 < m.w∨1 < m.h
instance (m:Img):Decidable (yd m):=inferInstanceAs (Decidable (_∨_))
def itI(m:Img):Nat->Img
 | 0=>m
 | n+1=>kL (itI m n)
theorem jw{m:Img}(hm:okM m):∀n,okM (itI m n)
 | 0=>hm
 | n+1=>zfY (jw hm n)
def vp(m:Img):Nat->Nat
 | 0=>1
 | n+1=>if yd m then 1+vp (kL m) n else 1
theorem zaB(m:Img):∀n,itI (kL m) n=itI m (n+1)
 | 0=>rfl
 | n+1=>by show kL (itI (kL m) n)=kL (itI m (n+1));rw [zaB m n]
def z5(m:Img):Nat:=vp m 12
def zeZ(m:Img):List Img:=if qo m then (List.range (z5 m)).map (itI m) else []
theorem zeh(m:Img):(kL m).w=zH m.w/\(kL m).h=zH m.h:=⟨rfl,rfl⟩
theorem zcS:∀(n:Nat) (m:Img),1<=m.w->m.w<=2 ^ n->1<=m.h->m.h<=2 ^ n->1<=vp m n/\vp m n<=n+1/\(∀j,j+1 < vp m n->yd (itI m j))/\¬yd (itI m (vp m n - 1))
 |0,m,h1,h2,h3,h4=>⟨Nat.le_refl _,Nat.le_refl _,fun j hj=>by have hj:j+1 < 1:=hj;omega,fun k=>by
  have k:yd m:=k
  unfold yd at k;omega⟩
 | n+1,m,h1,h2,h3,h4=>by
  unfold vp
  by_cases c:yd m
  ·rw [if_pos c];obtain ⟨e1,e2⟩:=zeh m;rw [Int.pow_succ] at h2 h4;obtain ⟨a,b,d,e⟩:=zcS n (kL m) (by rw [e1];unfold zH;omega) (by rw [e1];unfold zH;omega) (by rw [e2];unfold zH;omega) (by rw [e2];unfold zH;omega);refine ⟨oM,oM,fun j hj=>?_,?_⟩
   ·cases j with
    | zero=>exact c
    | succ j=>rw [← zaB];exact d j oM
   ·rw [show 1+vp (kL m) n - 1=(vp (kL m) n - 1)+1 by omega,← zaB];exact e
  ·rw [if_neg c];exact ⟨Nat.le_refl _,oM,fun j hj=>by omega,c⟩
theorem uK{m:Img}(hm:qo m):1<=z5 m/\z5 m<=13/\(∀j,j+1 < z5 m->yd (itI m j))/\¬yd (itI m (z5 m - 1)):=by
 obtain ⟨m1,m2,_⟩:=hm;exact zcS 12 m m1.1 oM m2.1 oM
theorem zf3:∀(k n:Nat) (m:Img),1<=m.w->m.w<=2 ^ k->1<=m.h->m.h<=2 ^ k->vp m n<=k+1
 | k,0,m,_,_,_,_=>by show 1<=k+1;omega
 | 0,n+1,m,h1,h2,h3,h4=>by
  unfold vp;rw [if_neg (fun k=>by unfold yd at k;omega)];omega
 | k+1,n+1,m,h1,h2,h3,h4=>by
  unfold vp
  split
  ·obtain ⟨e1,e2⟩:=zeh m;rw [Int.pow_succ] at h2 h4;have:=zf3 k n (kL m) (by rw [e1];unfold zH;omega) (by rw [e1];unfold zH;omega) (by rw [e2];unfold zH;omega) (by rw [e2];unfold zH;omega);omega
  ·omega
theorem mip_8{m:Img}(hm:qo m)(h:m.px.length<=100):z5 m<=8:=by
 obtain ⟨m1,m2,m3,m4,_⟩:=hm
 have a:m.w<=100:=by
  have:=Int.mul_le_mul_of_nonneg_left m2.1 (show 0<=m.w by omega);omega
 have b:m.h<=100:=by
  have:=Int.mul_le_mul_of_nonneg_right m1.1 (show 0<=m.h by omega);omega
 exact zf3 7 12 m m1.1 oM m2.1 oM
theorem zf4{m:Img}(hm:qo m){n:Nat}(h:n+1<=z5 m):(yd (itI m n)->n+2<=z5 m)/\(¬yd (itI m n)->n+1=z5 m):=by
 obtain ⟨a,b,c,d⟩:=uK hm;refine ⟨fun k=>?_,fun k=>?_⟩
 ·refine Decidable.not_not.1 fun q=>d ?_
  rw [show z5 m - 1=n by omega];exact k
 ·refine Decidable.not_not.1 fun q=>k (c n oM)
def zP(m:Img)(n:Nat):List Img:=(List.range n).map (itI m)
theorem ze0(m:Img)(n:Nat):zP m (n+1)=zP m n++[itI m n]:=by unfold zP;rw [List.range_succ,List.map_append];rfl
theorem zf5(m:Img)(n:Nat):(zP m n).length=n:=by unfold zP;simp
theorem zf6(q:Img):([q]:List Img).length=1/\(1:Nat)<=281474976710656/\1*3<=16777216/\0 < 3/\∀x∈[q],(ze x).length=3/\z8 (ze x)=true/\kB.flats (ze x)=true:=
 ⟨rfl,dC,dC,dC,fun _ _=>⟨rfl,rfl,rfl⟩⟩
theorem zf7{l:List Img}{q:Img}(h:l.length<=1000):((l.length:Int)+(([q]:List Img).length:Int))*40<=140737488355328/\l.length+([q]:List Img).length<=281474976710656/\0 < 3/\∀x∈[q],(ze x).length=3:=
 ⟨by rw [List.length_singleton];omega,by rw [List.length_singleton];omega,dC,fun _ _=>rfl⟩
theorem zgI(m:Img)(hp:∀q∈m.px,P8 q):zf Try.prog 29 [.agg (ze m)] [] (.own 0) [(0,.arr 28 ze 3 (zeZ m))]:=by
 refine zZ tok mix Try.func29 rfl rfl rfl ?_;refine ⟨Img,ze,[],rfl,Ob.o39 ?_⟩;refine zc.t (zcP m) ?_;refine Br.mk (fun h=>⟨some 1,.own _ rfl,congrArg (fun l=>some (Mem.arr 28 ze 3 l)) (show []=zeZ m from (if_neg h).symm),fun _ _=>rfl⟩) (fun h=>?_);have hm:=Decidable.not_not.1 h;have hk:okM m:=⟨hm,hp⟩;obtain ⟨s1,s2,_,_⟩:=uK hm;have eL:zeZ m=zP m (z5 m):=if_pos hm;rw [eL];refine ⟨Img,ze,[m],rfl,Ob.mk (zf6 _) ?_⟩;refine ⟨[m],rfl,Ob.mk (zf7 (Nat.zero_le _)) ?_⟩
 refine ⟨Nat,fun n=>⟨[(3,.own 1),(1,.loc 0 0)],[(1,.arr 28 ze 3 (zP m (n+1))),(0,.box 28 (ze (itI m n)))],2,28,0⟩,fun n=>n+1<=z5 m,fun n=>z5 m - n,0,s1,?_,?_⟩
 ·exact z3 [(0,some 0),(1,some 3)]
 intro n hn;have hn:n+1<=z5 m:=hn;obtain ⟨g1,g2⟩:=zf4 hm hn;have en:zP m (n+2)=zP m (n+1)++[kL (itI m n)]:=ze0 m (n+1);refine Br.mk (fun c=>?_) (fun c=>?_);rotate_left;refine Br.mk (fun d=>?_) (fun d=>?_);rotate_left
 ·have e:n+1=z5 m:=g2 fun k=>k.elim c d
  exact ⟨some 1,.own _ rfl,congrArg (fun k=>some (Mem.arr 28 ze 3 (zP m k))) e,fun _ _=>rfl⟩
 have g:=g1 (.inl c);rotate_left;have g:=g1 (.inr d)
 all_goals
  refine zc.t (zeY (itI m n) (jw hk n)) ?_;refine ⟨Img,ze,[kL (itI m n)],rfl,Ob.mk (zf6 _) ?_⟩;refine ⟨[kL (itI m n)],rfl,Ob.mk (zf7 (by rw [zf5];omega)) ?_⟩;exact ⟨n+1,g,zi [(0,some 0),(1,some 3)] ⟨congrArg (fun l=>some (Mem.arr 28 ze 3 l)) en.symm,rfl,trivial⟩,by dsimp only;omega⟩
theorem zhp(m:Img)(hp:∀q∈m.px,P8 q):zf Try.prog 29 [.agg (ze m)] [] (.sl ze (zeZ m)) []:=(zgI m hp).plain rfl
theorem qv(a b:List Img):zf Try.prog 30 [.sl ze a,.sl ze b] [] (pr (a=b)) []:=by
 refine zk tok mix Try.func30 rfl rfl rfl ?_;intro hl1 hl2;refine Br.mk (fun h=>zE fun e=>h (by rw [e])) (fun h=>?_)
 have h:a.length=b.length:=by
  have h:¬¬(a.length:Int)=b.length:=h;omega
 intro hl3;refine ⟨Nat,fun i=>⟨[(13,i64 (i:Int)),(12,i64 (a.length:Int)),(1,.sl ze b),(0,.sl ze a)],[],0,27,0⟩,fun i=>i<=a.length/\a.take i=b.take i,fun i=>a.length - i,0,⟨Nat.zero_le _,rfl⟩,?_,?_⟩
 ·exact z3 []
 rintro i ⟨h1,h2⟩
 refine Br.mk (fun g=>?_) (fun g=>?_)
 ·have g:(i:Int) < a.length:=g;refine Dr.k ?_;refine Ob.o ?_;intro x hx;have hx:a[i]? =some x:=hx;refine Ob.o ?_;intro y hy;have hy:b[i]? =some y:=hy;refine zc.t (zV x y) ?_;refine Br.mk (fun k=>zE fun e=>k (by rw [e] at hx;exact Option.some.inj (hx.symm.trans hy))) (fun k=>?_);have k:x=y:=Decidable.not_not.1 k;refine Ar.o ?_;exact ⟨i+1,⟨oM,by rw [List.take_add_one,List.take_add_one,hx,hy,h2,k]⟩,z3 [],by dsimp only;omega⟩
 ·have g:¬(i:Int) < a.length:=g;refine yS ?_;rw [List.take_of_length_le oM,List.take_of_length_le oM] at h2;exact h2
def endG(Γ:List (TypeId×TI))(rs:List ResultVar)(r:SV)(M':List (Nat×Mem))(e:Ex)(σ:St):Prop:=
 match e with
 | .exit _=>False
 | _=>∃σ',Sub σ σ'/\σ'.M=M'/\zaH σ' Γ rs fun s=>LE s r
theorem zdA {P:Program} {Γ:List (TypeId×TI)} (hT:TOK P Γ) (hm:P.follows .mixedOrders=true) {f:FuncId} {fn:Func} {c:Code} {args:List SV} {M M':List (Nat×Mem)} {r:SV}
  (hf:P.funcs[f]? =some fn) (hb:fn.body=some c) (hn:(fn.name== "runtime.NumGoroutine")=false) (hle:Nat.ble args.length fn.ntmps=true)
  (h:yp P Γ c ⟨k7 0 args,M,M.length,fn.ntmps,M.length⟩ (endG Γ fn.results.toList r M')):zf P f args M r M':=by
 refine yR hT hm hf hb hn hle h (Q':=fun e σ=>(∀id,e≠.exit id)/\σ.M=M'/\zaH σ Γ fn.results.toList fun s=>LE s r) (fun e σ hq=>?_) (fun e σ hq he=>?_) (fun id σ hq=>hq.1 id rfl)
 ·cases e with
  | exit id=>exact hq.elim
  | normal=>obtain ⟨σ',h1,h2,h3⟩:=hq;exact ⟨σ',h1,fun _=>by simp,h2,h3⟩
  | ret=>obtain ⟨σ',h1,h2,h3⟩:=hq;exact ⟨σ',h1,fun _=>by simp,h2,h3⟩
 ·obtain ⟨_,hM,hq⟩:=hq;obtain ⟨s,hle,h1⟩:=yQ hT hq;refine ⟨s,h1,fun {E ρ a w v} hr hW hρ0 hg=>⟨ρ,?_,?_,?_⟩⟩
  ·have hs:=hr.stp;rw [hM] at hs;exact ⟨hs.os,hs.tape,hs.output,hs.size,fun b hb hn=>hs.block b hb fun h=>hn ((hW b).1 h),fun b hb=>(hs.own b hb).imp (hW b).1 id,hs.rho⟩
  ·have:=hr.mem
   rwa [hM] at this
  ·rw [hM] at hg;exact hle _ _ _ _ _ hg
end Go.Gs
