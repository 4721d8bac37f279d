/- The sources of target pixels: the program's, walked. -/
import Derived.Test.YtjfbljononkmcaaMA
import Derived.Test.YtjfbljononkmcaaMAV
import Derived.Test.YtjfbljononkmcaaMAU
set_option maxRecDepth 100000
set_option maxHeartbeats 8000000
set_option linter.all false
namespace Go.Gs
open Go.Proofs
theorem zgd{σ:St}(k0:Nat){T:TypeId}{α:Type}{enc:α->List SV}{sz:Nat}{xs:List α}(h0:zm σ.M k0=some (.arr T enc sz xs)):Sub σ ⟨σ.L,zN σ.M k0 (.garr T sz (xs.map enc)),σ.nk,σ.nt,σ.n0⟩:=by
 refine zgK k0 h0 fun S Pm ρ w ⟨v,cells,g1,g2,g3,g4,g5,g6⟩=>⟨v,cells,g1,by rw [List.length_map];exact g2,by rw [List.length_map];exact g3,g4,fun y hy=>?_,fun i j y s hy hs=>?_⟩
 ·obtain ⟨x,hx,rfl⟩:=List.mem_map.1 hy;exact g5 x hx
 ·rw [List.getElem?_map] at hy
  cases hx:xs[i]? with
  | none=>rw [hx] at hy;cases hy
  | some x=>
   rw [hx] at hy
   cases hy
   obtain ⟨u,h1,h2⟩:=g6 i j x s hx hs;exact ⟨u,h1,.d _ _ h2⟩
theorem zgO(d:List (List (Int×Int)))(r:List (Int×Int))(k:Nat):spG d (spE r) k=(d++[r]).map spE++List.replicate k je:=by
 unfold spG;rw [List.map_append,List.append_assoc];rfl
theorem zge(size:Int)(n:Nat)(hs:1<=size/\size<=4096)(hn:1<=n/\n<=4096):zf Try.prog 55 [i64 size,i64 (n:Int)] [] (.own 0) [(0,.arr 73 spE 1 (kS size n n))]:=by
 refine zaO tok mix Try.func55 rfl rfl rfl ?_;refine ⟨Unit,fun _=>je,(),rfl,Ob.mk ⟨dC,oM,Int.le_refl _,by show (n:Int)*24<=_;omega,oM⟩ ?_⟩;intro hl0;rw [Int.toNat_natCast,List.length_replicate];refine ⟨Nat,fun x=>⟨[(14,i64 (x:Int)),(13,i64 (n:Int)),(5,.own 0),(1,i64 (n:Int)),(0,i64 size)],[(0,.garr 73 1 ((kS size n x).map spE++List.replicate (n - x) je))],1,59,0⟩,fun x=>x<=n,fun x=>n - x,0,Nat.zero_le _,?_,?_⟩
 ·refine (zgd 0 (enc:=fun _:Unit=>je) (xs:=List.replicate n ()) rfl).trans (zi [(0,some 0)] ⟨⟨_,rfl,?_⟩,trivial⟩);rw [zgc];refine ⟨rfl,fun j x hx=>⟨x,hx,?_⟩⟩;have hx:(List.replicate n je)[j]? =some x:=hx;rw [List.eq_of_mem_replicate (List.mem_of_getElem? hx)];rfl
 intro x hx;have hx:x<=n:=hx;refine Br.mk (fun g=>?_) (fun g=>?_);rotate_left
 ·have g:¬(x:Int) < (n:Int):=g;have e:x=n:=oM;refine ⟨_,qu 0 spE (kS size n x) ?_ (fun _ _=>rfl),some 0,.own 0 rfl,congrArg (fun k=>some (Mem.arr 73 spE 1 (kS size n k))) e,fun _ _=>rfl⟩;exact congrArg (fun l=>some (Mem.garr 73 1 l)) (by rw [e,Nat.sub_self];exact List.append_nil _)
 have g:(x:Int) < (n:Int):=g;have hxs:0<=(x:Int)*size/\(x:Int)*size<=4096*4096:=kZ oM oM oM hs.2;have hxs1:((x:Int)+1)*size=(x:Int)*size+size:=by rw [Int.add_mul,Int.one_mul]
 (iterate 2 refine Ar.o ?_);refine Ar.fit (by rw [hxs1];omega) ?_;refine Dv.pos ⟨hxs.1,oM,by show (x:Int)*size<=9223372036854775807;omega⟩ ?_;have hlo:0<=(x:Int)*size / (n:Int):=Int.ediv_nonneg hxs.1 oM;obtain ⟨lo,hlo2⟩:∃lo:Nat,(x:Int)*size / (n:Int)=(lo:Int):=⟨((x:Int)*size / (n:Int)).toNat,oM⟩
 have hlsz:lo<=size.toNat:=by
  have a:(x:Int)*size / (n:Int)*(n:Int)<=(x:Int)*size:=Int.ediv_mul_le _ oM;have b:(x:Int)*size<=(n:Int)*size:=Int.mul_le_mul_of_nonneg_right oM oM;rw [hlo2] at a
  have c:(lo:Int)<=size:=by
   refine Int.not_lt.1 fun k=>?_
   have d:(size+1)*(n:Int)<=(lo:Int)*(n:Int):=Int.mul_le_mul_of_nonneg_right oM oM;rw [Int.add_mul,Int.one_mul,Int.mul_comm size] at d;omega
  omega
 rw [hlo2]
 have e0:sps size n x lo=[]:=by
  rw [zaC (Nat.zero_le lo) fun i _ hi=>ze1 oM oM];rfl
 have eg:List.replicate (n - x) je=je::List.replicate (n - x - 1) je:=by
  rw [show n - x=(n - x - 1)+1 by omega,List.replicate_succ];rfl
 refine ⟨Nat,fun i=>⟨[(9,i64 (i:Int)),(8,i64 (((x:Int)+1)*size)),(7,i64 ((x:Int)*size)),(6,i64 (x:Int)),(14,i64 (x:Int)),(13,i64 (n:Int)),(5,.own 0),(1,i64 (n:Int)),(0,i64 size)],
  [(0,.garr 73 1 (spG (kS size n x) [.own 1] (n - x - 1))),(1,.arr 77 ug 2 (sps size n x i))],2,59,0⟩,fun i=>lo<=i/\i<=size.toNat,fun i=>size.toNat - i,lo,⟨Nat.le_refl _,hlsz⟩,?_,?_⟩
 ·refine zi [(0,some 0),(1,none)] ⟨⟨_,rfl,?_⟩,by show Nat.beq (sps size n x lo).length 0=true;rw [e0];rfl,trivial⟩;rw [eg];exact zdB (s:=je) rfl
 rintro i ⟨h1,h2⟩
 have hin:0<=(i:Int)*(n:Int)/\(i:Int)*(n:Int)<=4096*4096:=kZ oM oM oM oM;have hin1:((i:Int)+1)*(n:Int)=(i:Int)*(n:Int)+(n:Int):=by rw [Int.add_mul,Int.one_mul]
 refine Ar.o ?_;refine Br.mk (fun k=>?_) (fun k=>?_)
 ·have k:(i:Int)*(n:Int) < ((x:Int)+1)*size:=k;obtain ⟨o1,o2⟩:=ov_at (size:=size) (n:=n) (x:=x) (i:=i) oM oM oM k;have hisz:=zgJ (size:=size) (n:=n) (x:=x) (i:=i) oM oM oM k;have hlen:=zgN size n x i;have hd:=u6 size n x;refine Ob.mk ⟨oM,by rw [jn,hd];omega⟩ ?_;refine Ob.mk ⟨oM,by rw [jn,hd];omega⟩ ?_;intro r hr;have hr:r=[.own 1]:=zga hd.symm (show (spG (kS size n x) [.own 1] (n - x - 1))[x]? =some r from hr);rw [hr];refine Ar.o ?_;refine Ar.fit (by rw [hin1];omega) ?_;refine Ar.o ?_;refine Ar.fit ?_ ?_
  ·show -9223372036854775808<=min (((x:Int)+1)*size) (((i:Int)+1)*(n:Int)) - max ((x:Int)*size) ((i:Int)*(n:Int))/\min (((x:Int)+1)*size) (((i:Int)+1)*(n:Int)) - max ((x:Int)*size) ((i:Int)*(n:Int))<=9223372036854775807;rw [hxs1,hin1];omega
  refine ⟨Int×Int,ug,[((i:Int),min (((x:Int)+1)*size) (((i:Int)+1)*(n:Int)) - max ((x:Int)*size) ((i:Int)*(n:Int)))],rfl,Ob.mk ⟨rfl,dC,dC,dC,fun y hy=>by rw [List.mem_singleton.1 hy];exact ⟨rfl,rfl,rfl⟩⟩ ?_⟩;refine ⟨[((i:Int),min (((x:Int)+1)*size) (((i:Int)+1)*(n:Int)) - max ((x:Int)*size) ((i:Int)*(n:Int)))],rfl,Ob.mk ⟨by show (((sps size n x i).length:Int)+1)*16<=_;omega,by show (sps size n x i).length+1<=_;omega,dC,fun _ _=>rfl⟩ ?_⟩;refine Ob.mk ⟨oM,by rw [jn,hd];omega⟩ ?_
  refine Ob.mk ⟨oM,by rw [jn,hd];omega⟩ ?_;intro r2 hr2;have hr2:r2=[.own 1]:=zga hd.symm (show (spG (kS size n x) [.own 1] (n - x - 1))[x]? =some r2 from hr2);rw [hr2];refine Ar.o ?_
  refine ⟨i+1,⟨oM,oM⟩,qh [(0,some 0),(1,some 3)] rfl rfl rfl ⟨rfl,rfl,rfl,rfl,rfl,rfl,rfl,rfl,rfl,trivial⟩
   ⟨⟨spG (kS size n x) [.own 3] (n - x - 1),congrArg (fun l=>some (Mem.garr 73 1 l)) (zgL (s:=[.own 3]) hd.symm),zdB rfl⟩,
   congrArg (fun l=>some (Mem.arr 77 ug 2 l)) (show sps size n x i++_=sps size n x (i+1) by rw [uL o1,o2]),trivial⟩,by dsimp only;omega⟩
 ·have k:¬(i:Int)*(n:Int) < ((x:Int)+1)*size:=k;have ef:sps size n x i=sps size n x size.toNat:=(zaC h2 fun j h1 _=>ze2 oM oM h1).symm;refine Ar.o ?_
  refine ⟨x+1,by show x+1<=n;omega,(zd0 (sz0:=1) (T0:=73) 1 0 (enc:=ug) (ys:=sps size n x i) rfl rfl (xs':=spG (kS size n x) (spE (sps size n x i)) (n - x - 1)) (by rw [jn,jn]) (zgb rfl) zgM).trans
   (zi [(0,some 0)] ⟨⟨_,rfl,?_⟩,trivial⟩),by dsimp only;omega⟩
  have e1:(kS size n (x+1)).map spE++List.replicate (n - (x+1)) je=spG (kS size n x) (spE (sps size n x i)) (n - x - 1):=by
   rw [zgO,zdC,ef,show n - (x+1)=n - x - 1 by omega]
  rw [e1];exact zdB (s:=spE (sps size n x i)) rfl
theorem zei(size:Int)(n:Nat)(hs:1<=size/\size<=4096)(hn:1<=n/\n<=4096):zf Try.prog 55 [i64 size,i64 (n:Int)] [] (.sl spE (kS size n n)) []:=(zge size n hs hn).plain rfl
theorem zcY{size:Int}{n x:Nat}(h:x < n):(kS size n n)[x]? =some (sps size n x size.toNat):=by
 unfold kS;rw [List.getElem?_map,List.getElem?_range h];rfl
theorem zg3{l:List (Int×Int)}(hl:∀u∈l,0<=u.2){k:Nat}{u:Int×Int}(h:l[k]? =some u):kA (l.take k)+u.2<=kA l:=by
 have:=(qw hl (k+1)).2;rw [List.take_add_one,h] at this;have e2:l.take k++(some u).toList=l.take k++[u]:=rfl;rw [e2,zaD] at this;exact this
theorem zdD{m:Img}(hm:qo m){w:Int}(hw:1<=w)(x:Nat):0<=kA (qj m w x)/\kA (qj m w x)<=m.w:=qE hw hm.1.1 oM _
theorem zhq{m:Img}(hm:qo m){h:Int}(hh:1<=h)(y:Nat):0<=kA (yF m h y)/\kA (yF m h y)<=m.h:=qE hh hm.2.1.1 oM _
theorem zgP{m:Img}(hm:qo m){w:Int}(hw:1<=w){x k:Nat}{u:Int×Int}(h:(qj m w x)[k]? =some u):(0<=u.1/\u.1 < m.w)/\0<=u.2/\u.2<=m.w:=by
 have a:=yG hm (List.mem_of_getElem? h);have hp:∀u∈qj m w x,0<=u.2:=fun u hu=>by have:=yG hm hu;omega
 have b:=zg3 hp h;have c:=(qw hp k).1;have d:=(zdD hm hw x).2;omega
theorem zej{m:Img}(hm:qo m){h:Int}(hh:1<=h){y j:Nat}{v:Int×Int}(k:(yF m h y)[j]? =some v):(0<=v.1/\v.1 < m.h)/\0<=v.2/\kA ((yF m h y).take j)+v.2<=m.h:=by
 have a:=jO hm (List.mem_of_getElem? k);have hp:∀u∈yF m h y,0<=u.2:=fun u hu=>by have:=jO hm hu;omega
 have b:=zg3 hp k;have d:=(zhq hm hh y).2;omega
theorem zgQ{m:Img}(hm:okM m){w h:Int}(hw:1<=w)(hh:1<=h){x y j k:Nat}{v:Int×Int}(hv:(yF m h y)[j]? =some v):
  zdz (qx m v (kW m (qj m w x) ((yF m h y).take j)) ((qj m w x).take k)):=by
 obtain ⟨v1,v2,v3⟩:=zej hm.1 hh hv;have hc:∀u∈qj m w x,(0<=u.1/\u.1 < m.w)/\0<=u.2:=fun u hu=>by have:=yG hm.1 hu;omega
 have hp:∀u∈yF m h y,0<=u.2:=fun u hu=>by have:=jO hm.1 hu;omega
 have a:=zbY hm hc (l:=(yF m h y).take j) fun v hv=>by have:=jO hm.1 (List.mem_of_mem_take hv);omega
 have b:=zbX (n:=0) hm ⟨v1,v2⟩ a (l:=(qj m w x).take k) fun u hu=>hc u (List.mem_of_mem_take hu)
 have c1:=zdD hm.1 hw x;have c2:=qw (fun u hu=>(hc u hu).2) k;have c3:=qw hp j;have hW:=hm.1.1;have hH:=hm.1.2.1;refine vB b ?_;have e1:=kZ c1.1 (show kA (qj m w x)<=4096 by omega) c3.1 (show kA ((yF m h y).take j)<=4096 by omega);have e2:=kZ c2.1 (show kA ((qj m w x).take k)<=4096 by omega) v2 (show v.2<=4096 by omega);omega
theorem zek{m:Img}{k:Int}{p:Pix}(h:m.px[k.toNat]? =some p):ue m k=p:=by unfold ue;rw [List.getD_eq_getElem?_getD,h];rfl
theorem ze3{m:Img}{v:Int×Int}{q:Qd}{l:List (Int×Int)}{k:Nat}{u:Int×Int}{p:Pix}(h:l[k]? =some u)(hp:ue m (v.1*m.w+u.1)=p):
  u4 (qx m v q (l.take k)) p (u.2*v.2)=qx m v q (l.take (k+1)):=by
 rw [List.take_add_one,h,← hp];exact (zcV m v q (l.take k) u).symm
theorem zhr(m:Img)(v:Int×Int)(q:Qd)(l:List (Int×Int)):q=qx m v q (l.take 0):=rfl
theorem ze4{m:Img}{cols l:List (Int×Int)}{j:Nat}{v:Int×Int}(h:l[j]? =some v):qx m v (kW m cols (l.take j)) cols=kW m cols (l.take (j+1)):=by
 rw [List.take_add_one,h];exact (zcW m cols (l.take j) v).symm
theorem zgf(m:Img)(w h:Int)(hl:m.px.length<=9223372036854775807)(hp:∀q∈m.px,P8 q)(rw_:R64 w)(rh:R64 h):
  zf Try.prog 26 [.agg (ze m),i64 w,i64 h] [] (zcQ (qk m w h)) [(0,.arr 37 zb 4 (qk m w h).1.px)]:=by
 generalize hc:qk m w h=c;refine zZ tok mix Try.func26 rfl rfl rfl ?_
 have bad:∀e:Int,c=(⟨0,0,[]⟩,e)->qV none (.tup [.agg [i64 0,i64 0,.val (.slice none 0 0)],i64 e]) (zcQ c)/\c.1.px=[]:=fun e he=>by
  subst he;exact ⟨ja (.cons (jF (.cons (z4 rfl) (.cons (z4 rfl) (.cons (.nil rfl) .nil)))) (.cons (z4 rfl) .nil)),rfl⟩
 refine zc.t (vy m hl) ?_;refine Br.mk (fun h1=>⟨none,bad 16 (by rw [← hc,qk,if_pos h1])⟩) (fun h1=>?_);have hm:okM m:=⟨Decidable.not_not.1 h1,hp⟩;obtain ⟨m1,m2,m3,m4,_⟩:=id hm.1;have out:¬jd w h->qV none (.tup [.agg [i64 0,i64 0,.val (.slice none 0 0)],i64 6]) (zcQ c)/\c.1.px=[]:=fun hn=>bad 6 (by rw [← hc,qk,if_neg h1,if_pos hn])
 refine Br.mk (fun g1=>⟨none,out fun hn=>by unfold jd at hn;omega⟩) (fun g1=>?_);refine Br.mk (fun g2=>⟨none,out fun hn=>by unfold jd at hn;omega⟩) (fun g2=>?_);refine Br.mk (fun g3=>⟨none,out fun hn=>by unfold jd at hn;omega⟩) (fun g3=>?_);refine Br.mk (fun g4=>⟨none,out fun hn=>by unfold jd at hn;omega⟩) (fun g4=>?_);have hwh:=kZ (show 0<=w by omega) (show w<=4096 by omega) (show 0<=h by omega) (show h<=4096 by omega);refine Ar.o ?_;refine Br.mk (fun g5=>⟨none,out fun hn=>by unfold jd at hn;omega⟩) (fun g5=>?_)
 have hin:jd w h:=⟨oM,oM,oM⟩;have hc':c=(⟨w,h,zcX m w h⟩,0):=by rw [← hc,qk,if_neg h1,if_neg (fun hn=>hn hin)]
 clear bad out hc;subst hc';obtain ⟨⟨w1,w2⟩,⟨h1',h2⟩,hwh2⟩:=hin;obtain ⟨W,rfl⟩:∃W:Nat,w=(W:Int):=⟨w.toNat,oM⟩;obtain ⟨H,rfl⟩:∃H:Nat,h=(H:Int):=⟨h.toNat,oM⟩;have hWH:H*W<=65536:=by rw [← Int.natCast_mul,Nat.mul_comm] at hwh2;omega
 clear g1 g2 g3 g4 g5 h1 rw_ rh hwh hwh2;refine Dr.d ?_;refine zc.t (zei m.w W m1 oM) ?_;refine zc.t (zei m.h H m2 oM) ?_;refine Ob.mk (by kernel_rfl) ?_;have hCl:=u6 m.w W W;have hRl:=u6 m.h H H;have hC:∀x:Nat,x < W->(kS m.w W W)[x]? =some (qj m W x):=fun x hx=>zcY hx
 have hR:∀y:Nat,y < H->(kS m.h H H)[y]? =some (yF m H y):=fun y hy=>zcY hy
 generalize kS m.w W W=C at*;generalize kS m.h H H=R at*;have hWHi:(W:Int)*(H:Int)<=65536:=by rw [← Int.natCast_mul,Nat.mul_comm];omega
 have hWH0:0<=(W:Int)*(H:Int):=Int.mul_nonneg oM oM;refine Ar.o ?_;refine ⟨Pix,zb,vi,rfl,Ob.mk ⟨dC,Int.le_refl _,hWH0,by show (W:Int)*(H:Int)*4<=_;omega,oM⟩ ?_⟩;intro hl0;refine ⟨Nat,fun y=>⟨[(64,i64 (y:Int)),(63,i64 (R.length:Int)),(62,.sl spE R),(8,.sl spE C),(10,.loc 3 0),(6,.loc 1 0),(3,.loc 0 0)],[(3,.box 28 [i64 (W:Int),i64 (H:Int),.own 2]),(2,.arr 37 zb 4 (gr (uf m W H) W (y*W))),(1,.box 28 z7),(0,.box 28 (ze m))],4,121,0⟩,fun y=>y<=H,fun y=>H - y,0,Nat.zero_le _,?_,?_⟩
 ·exact zi [(0,some 0),(1,some 1),(2,some 2),(3,some 3)] ⟨rfl,by rw [Nat.zero_mul];rfl,rfl,rfl,trivial⟩
 intro y hy;have hy:y<=H:=hy;refine Br.mk (fun g=>?_) (fun g=>?_);rotate_left
 ·have g:¬(y:Int) < (R.length:Int):=g;have e:y=H:=oM;refine ⟨some 2,ja (.cons (jF (.cons (z4 rfl) (.cons (z4 rfl) (.cons (.own 2 rfl) .nil)))) (.cons (z4 rfl) .nil)),congrArg (fun l=>some (Mem.arr 37 zb 4 l)) ?_,kF _⟩;unfold zcX;rw [e];rfl
 have g:(y:Int) < (R.length:Int):=g
 have hyW:y*W+W<=H*W:=by
  have:=Nat.mul_le_mul_right W (show y+1<=H by omega)
  rwa [Nat.add_mul,Nat.one_mul] at this
 refine Ob.o ?_;intro r hr;have er:r=yF m H y:=Option.some.inj ((show R[y]? =some r from hr).symm.trans (hR y oM))
 have hrow:∀(j:Nat) (v:Int×Int),r[j]? =some v->(0<=v.1/\v.1 < m.h)/\0<=v.2/\v.2<=4096:=fun j v hv=>by
  rw [er] at hv;obtain ⟨a,b,d⟩:=zej hm.1 h1' hv;have:=(qw (l:=yF m H y) (fun u hu=>by have:=(jO hm.1 hu).2;omega) j).1;exact ⟨a,b,oM⟩
 intro hl1;refine ⟨Nat,fun x=>⟨[(70,i64 (x:Int)),(69,i64 (C.length:Int)),(68,.sl spE C),(12,.sl ug r),(64,i64 (y:Int)),(63,i64 (R.length:Int)),(62,.sl spE R),(8,.sl spE C),(10,.loc 3 0),(6,.loc 1 0),(3,.loc 0 0)],[(3,.box 28 [i64 (W:Int),i64 (H:Int),.own 2]),(2,.arr 37 zb 4 (gr (uf m W H) W (y*W+x))),(1,.box 28 z7),(0,.box 28 (ze m))],4,121,0⟩,fun x=>x<=W,fun x=>W - x,0,Nat.zero_le _,?_,?_⟩
 ·exact z3 [(0,some 0),(1,some 1),(2,some 2),(3,some 3)]
 intro x hx;have hx:x<=W:=hx;refine Br.mk (fun g2=>?_) (fun g2=>?_);rotate_left
 ·have g2:¬(x:Int) < (C.length:Int):=g2;have e:x=W:=oM;refine Ar.o ?_;exact ⟨y+1,by show y+1<=H;omega,zi [(0,some 0),(1,some 1),(2,some 2),(3,some 3)] ⟨rfl,congrArg (fun n=>some (Mem.arr 37 zb 4 (gr (uf m W H) W n))) (by rw [e,Nat.add_mul,Nat.one_mul]),rfl,rfl,trivial⟩,by dsimp only;omega⟩
 have g2:(x:Int) < (C.length:Int):=g2;refine Ob.o ?_;intro c hcx;have ec:c=qj m W x:=Option.some.inj ((show C[x]? =some c from hcx).symm.trans (hC x oM));have hcol:∀(k:Nat) (u:Int×Int),c[k]? =some u->(0<=u.1/\u.1 < m.w)/\0<=u.2/\u.2<=m.w:=fun k u hu=>by rw [ec] at hu;exact zgP hm.1 w1 hu
 have hpart:∀(j:Nat) (v:Int×Int) (k:Nat),r[j]? =some v->zdz (qx m v (kW m c (r.take j)) (c.take k)):=fun j v k h=>by
  rw [er] at h ⊢;rw [ec];exact zgQ hm w1 h1' h
 have hres:inQ (kW m c r) (m.w*m.h)/\zay (kW m c r) (m.w*m.h)=uf m W H x y:=by
  rw [er,ec];exact ⟨zf9 hm w1 h1' x y,rfl⟩
 intro hl2
 refine ⟨Nat,fun j=>⟨[(76,i64 (j:Int)),(75,i64 (r.length:Int)),(74,.sl ug r),(14,.sl ug c),(15,.loc 4 0),(70,i64 (x:Int)),(69,i64 (C.length:Int)),(68,.sl spE C),(12,.sl ug r),(64,i64 (y:Int)),(63,i64 (R.length:Int)),(62,.sl spE R),(8,.sl spE C),(10,.loc 3 0),(6,.loc 1 0),(3,.loc 0 0)],[(4,.box 75 (qdE (kW m c (r.take j)))),(3,.box 28 [i64 (W:Int),i64 (H:Int),.own 2]),(2,.arr 37 zb 4 (gr (uf m W H) W (y*W+x))),(1,.box 28 z7),(0,.box 28 (ze m))],5,121,0⟩,fun j=>j<=r.length,fun j=>r.length - j,0,Nat.zero_le _,?_,?_⟩
 ·exact z3 [(0,some 0),(1,some 1),(2,some 2),(3,some 3),(4,some 4)]
 intro j hj;have hj:j<=r.length:=hj;refine Br.mk (fun g3=>?_) (fun g3=>?_);rotate_left
 ·have g3:¬(j:Int) < (r.length:Int):=g3;have e:r.take j=r:=List.take_of_length_le oM;have hres':inQ (kW m c (r.take j)) (m.w*m.h)/\zay (kW m c (r.take j)) (m.w*m.h)=uf m W H x y:=by rw [e];exact hres
  have hWHm:=kZ (show 0<=m.w by omega) m1.2 (show 0<=m.h by omega) m2.2;refine Dr.d ?_;refine Ar.o ?_
  refine zc.to _ (zg2 (kW m c (r.take j)) (m.w*m.h) hres'.1 ⟨by
   have:=Int.mul_le_mul m1.1 m2.1 dC oM
   omega,oM⟩) rfl ?_
  refine ⟨Pix,zb,[zay (kW m c (r.take j)) (m.w*m.h)],rfl,Ob.mk (zbU _) ?_⟩;refine ⟨[zay (kW m c (r.take j)) (m.w*m.h)],rfl,Ob.mk (zbV (by rw [zaz];omega)) ?_⟩;refine Ob.mk (by kernel_rfl) ?_;refine Ar.o ?_
  exact ⟨x+1,by show x+1<=W;omega,qh [(0,some 0),(1,some 1),(2,some 6),(3,some 3)] rfl rfl rfl ⟨rfl,rfl,rfl,rfl,rfl,rfl,rfl,rfl,rfl,rfl,rfl,trivial⟩
   ⟨rfl,congrArg (fun l=>some (Mem.arr 37 zb 4 l)) (by rw [hres'.2];exact vA (show x < W by omega)),rfl,rfl,trivial⟩,by dsimp only;omega⟩
 have g3:(j:Int) < (r.length:Int):=g3;refine Ob.o ?_;intro v hv;have hv:r[j]? =some v:=hv;intro hl3
 refine ⟨Nat,fun k=>⟨[(82,i64 (k:Int)),(81,i64 (c.length:Int)),(80,.sl ug c),(17,.loc 5 0),(76,i64 (j:Int)),(75,i64 (r.length:Int)),(74,.sl ug r),(14,.sl ug c),(15,.loc 4 0),(70,i64 (x:Int)),(69,i64 (C.length:Int)),(68,.sl spE C),(12,.sl ug r),(64,i64 (y:Int)),(63,i64 (R.length:Int)),(62,.sl spE R),(8,.sl spE C),(10,.loc 3 0),(6,.loc 1 0),(3,.loc 0 0)],[(5,.box 77 (ug v)),(4,.box 75 (qdE (qx m v (kW m c (r.take j)) (c.take k)))),(3,.box 28 [i64 (W:Int),i64 (H:Int),.own 2]),(2,.arr 37 zb 4 (gr (uf m W H) W (y*W+x))),(1,.box 28 z7),(0,.box 28 (ze m))],6,121,0⟩,fun k=>k<=c.length,fun k=>c.length - k,0,Nat.zero_le _,?_,?_⟩
 ·exact zi [(0,some 0),(1,some 1),(2,some 2),(3,some 3),(4,some 4),(5,some 5)] ⟨rfl,congrArg (fun q=>some (Mem.box 75 (qdE q))) (zhr m v (kW m c (r.take j)) c),rfl,rfl,rfl,rfl,trivial⟩
 intro k hk;have hk:k<=c.length:=hk;refine Br.mk (fun g4=>?_) (fun g4=>?_);rotate_left
 ·have g4:¬(k:Int) < (c.length:Int):=g4;have e:c.take k=c:=List.take_of_length_le oM;refine Ar.o ?_
  exact ⟨j+1,by show j+1<=r.length;omega,qh [(0,some 0),(1,some 1),(2,some 2),(3,some 3),(4,some 4)] rfl rfl rfl ⟨rfl,rfl,rfl,rfl,rfl,rfl,rfl,rfl,rfl,rfl,rfl,rfl,rfl,rfl,rfl,rfl,trivial⟩
   ⟨congrArg (fun q=>some (Mem.box 75 (qdE q))) (by rw [e];exact ze4 hv),rfl,rfl,rfl,rfl,trivial⟩,by dsimp only;omega⟩
 have g4:(k:Int) < (c.length:Int):=g4;refine Ob.o ?_;intro u hu;have hu:c[k]? =some u:=hu;have v1:=(hrow j v hv).1;have v2:=(hrow j v hv).2.1;have v4:=(hrow j v hv).2.2;have u1:=(hcol k u hu).1;have u2:=(hcol k u hu).2.1;have u3:=(hcol k u hu).2.2;have hpl:=jI (a:=u.1) (b:=v.1) (w:=m.w) (h:=m.h) u1 v1 m4;have hwt:=kZ u2 (show u.2<=4096 by omega) v2 v4;refine Dr.d ?_;(iterate 2 refine Ar.o ?_);refine Ob.o ?_;intro p hpx;have hpx:=zek (m:=m) (k:=v.1*m.w+u.1) hpx;refine Ar.o ?_
 refine zc.hand 4 _ _ _ rfl (zfZ _ p (u.2*v.2) (hpart j v k hv) (by rw [← hpx];exact (zbW hm ⟨hpl.2.2.1,hpl.2.2.2⟩).1) oM) rfl rfl rfl rfl ?_;refine Ob.mk (by kernel_rfl) ?_;refine Ar.o ?_
 exact ⟨k+1,by show k+1<=c.length;omega,qh [(0,some 0),(1,some 1),(2,some 2),(3,some 3),(4,some 4),(5,some 5)] rfl rfl rfl ⟨rfl,rfl,rfl,rfl,rfl,rfl,rfl,rfl,rfl,rfl,rfl,rfl,rfl,rfl,rfl,rfl,rfl,rfl,rfl,rfl,trivial⟩
  ⟨rfl,congrArg (fun q=>some (Mem.box 75 (qdE q))) (ze3 hu hpx),rfl,rfl,rfl,rfl,trivial⟩,by dsimp only;omega⟩
theorem c_ov(i a k b:Int)(hi:0<=i/\i<=4096)(ha:0<=a/\a<=4096)(hk:0<=k/\k<=4096)(hb:0<=b/\b<=4096):zf Try.prog 72 [i64 i,i64 a,i64 k,i64 b] [] (i64 (ov i a k b)) []:=by
 have h1:=kZ hi.1 hi.2 ha.1 ha.2;have h2:=kZ hk.1 hk.2 hb.1 hb.2;have e1:(i+1)*a=i*a+a:=by rw [Int.add_mul,Int.one_mul]
 have e2:(k+1)*b=k*b+b:=by rw [Int.add_mul,Int.one_mul]
 refine zk tok mix Try.func72 rfl rfl rfl ?_;(iterate 6 refine Ar.o ?_);refine Ar.fit ?_ ?_
 ·show -9223372036854775808<=min ((i+1)*a) ((k+1)*b) - max (i*a) (k*b)/\min ((i+1)*a) ((k+1)*b) - max (i*a) (k*b)<=9223372036854775807;omega
 exact .refl
theorem ze5(q:Qd)(p:Pix):u4 q p 0=q:=by
 unfold u4;simp only [Int.zero_mul,Int.add_zero]
theorem zgg{size n x:Int}(hn:1<=n)(hs:1<=size)(hx:0<=x)(k:Nat):0<=ov k n x size/\kA (sps size n x k)+ov k n x size<=size:=by
 have h0:=u5 k n x size;refine ⟨h0,?_⟩
 by_cases h:0 < ov k n x size
 ·have:=(qE hn hs hx (k+1)).2
  rwa [uL h,zaD] at this
 ·have:=(qE hn hs hx k).2;omega
theorem zgh{m:Img}{v:Int×Int}{q:Qd}{w x:Int}{i:Nat}:u4 (qx m v q (sps m.w w x i)) (ue m (v.1*m.w+(i:Int))) (v.2*ov i w x m.w)=qx m v q (sps m.w w x (i+1)):=by
 by_cases h:0 < ov i w x m.w
 ·rw [uL h,zcV];show _=u4 _ (ue m (v.1*m.w+(i:Int))) (ov i w x m.w*v.2);rw [Int.mul_comm (ov i w x m.w)]
 ·have:=u5 i w x m.w;rw [uM h,show ov i w x m.w=0 by omega,Int.mul_zero,ze5]
theorem zgi{m:Img}{cols:List (Int×Int)}{h y:Int}{j:Nat}(k:0 < ov j h y m.h):qx m ((j:Int),ov j h y m.h) (kW m cols (sps m.h h y j)) cols=kW m cols (sps m.h h y (j+1)):=by
 rw [uL k];exact (zcW m cols _ _).symm
theorem zcZ(m:Img)(v:Int×Int)(q:Qd)(w x:Int):qx m v q (sps m.w w x 0)=q:=rfl
theorem zgj{m:Img}(hm:okM m){w h:Int}(hw:1<=w)(hh:1<=h){x y j i:Nat}(hj:(j:Int) < m.h)(hi:(i:Int)<=m.w):
  zdz (qx m ((j:Int),ov j h y m.h) (kW m (qj m w x) (sps m.h h y j)) (sps m.w w x i)):=by
 have hW:=hm.1.1;have hH:=hm.1.2.1;have o:=zgg (size:=m.h) (n:=h) (x:=(y:Int)) hh hH.1 oM j;have hc:∀u∈qj m w x,(0<=u.1/\u.1 < m.w)/\0<=u.2:=fun u hu=>by have:=yG hm.1 hu;omega
 have a:=zbY hm hc (l:=sps m.h h y j) fun v hv=>by have:=vC hv;omega
 have b:=zbX (n:=0) (v:=((j:Int),ov j h y m.h)) hm ⟨⟨Int.natCast_nonneg j,hj⟩,o.1⟩ a (l:=sps m.w w x i) fun u hu=>by have:=vC hu;omega
 have c1:=zdD hm.1 hw x;have c2:=qE (size:=m.w) (n:=w) (x:=(x:Int)) hw hW.1 oM i;have c3:=qE (size:=m.h) (n:=h) (x:=(y:Int)) hh hH.1 oM j;refine vB b ?_;have e1:=kZ c1.1 (show kA (qj m w x)<=4096 by omega) c3.1 (show kA (sps m.h h y j)<=4096 by omega);have e2:=kZ c2.1 (show kA (sps m.w w x i)<=4096 by omega) o.1 (show ov j h y m.h<=4096 by omega);show kA (qj m w x)*kA (sps m.h h y j)+kA (sps m.w w x i)*ov j h y m.h<=_;omega
theorem zgk{o z:Int}(ho:0<=o/\o<=4096*4096)(hz:R8 z):(-9223372036854775808<=o*z/\o*z<=9223372036854775807)/\0<=o*z/\o*z<=4096*4096*255:=by
 have:=kZ ho.1 ho.2 hz.1 hz.2;omega
theorem zgl{x z:Int}(hx:0<=x/\x<=1000000000000000)(hz:0<=z/\z<=4096*4096*255): -9223372036854775808<=x+z/\x+z<=9223372036854775807:=oM
abbrev zPx:List SV:=vals [.int .u8 0,.int .u8 0,.int .u8 0,.int .u8 0]
theorem zdE(m:Img)(w h:Int)(x y:Nat)(hm:okM m)(hw:1<=w/\w<=4096)(hh:1<=h/\h<=4096)(hx:x<=4096)(hy:y<=4096):
  zf Try.prog 58 [.agg (ze m),i64 w,i64 h,i64 (x:Int),i64 (y:Int)] [] (.agg (zb (uf m w h x y))) []:=by
 have m1:=hm.1.1;have m2:=hm.1.2.1;have m4:=hm.1.2.2.2.1;have hWHm:=kZ (show 0<=m.w by omega) m1.2 (show 0<=m.h by omega) m2.2;refine zk tok mix Try.func58 rfl rfl rfl ?_;refine ⟨Int,jN,[0,0,0,0],rfl,Ob.mk (zaA _ _ _ _) ?_⟩
 refine ⟨Nat,fun j=>⟨[(12,i64 (j:Int)),(11,.own 2),(10,.loc 1 0),(5,.loc 0 0),(1,i64 w),(2,i64 h),(3,i64 (x:Int)),(4,i64 (y:Int))],[(2,.arr 3 jN 1 (qL (kW m (qj m w x) (sps m.h h y j)))),(1,.box 37 zPx),(0,.box 28 (ze m))],3,81,0⟩,
  fun j=>(j:Int)<=m.h,fun j=>(m.h - j).toNat,0,by show (0:Int)<=m.h;omega,?_,?_⟩
 ·exact z3 [(0,some 0),(1,some 1),(2,some 2)]
 intro j hj;have hj:(j:Int)<=m.h:=hj;refine Br.mk (fun g=>?_) (fun g=>?_);rotate_left
 ·have g:¬(j:Int) < m.h:=g;have e:j=m.h.toNat:=oM;have hr:inQ (kW m (qj m w x) (sps m.h h y j)) (m.w*m.h)/\zay (kW m (qj m w x) (sps m.h h y j)) (m.w*m.h)=uf m w h x y:=by rw [e];exact ⟨zf9 hm hw.1 hh.1 x y,rfl⟩
  refine Ar.o ?_
  refine zc.to _ (zf1 (kW m (qj m w x) (sps m.h h y j)) (m.w*m.h) hr.1 ⟨by
   have:=Int.mul_le_mul m1.1 m2.1 dC oM
   omega,oM⟩) rfl ?_
  exact zdp (by rw [hr.2];exact .refl)
 have g:(j:Int) < m.h:=g;refine zc.t (c_ov j h y m.h oM oM oM oM) ?_;have o1:=(zgg (size:=m.h) (n:=h) (x:=(y:Int)) hh.1 m2.1 oM j);have o2:=(qE (size:=m.h) (n:=h) (x:=(y:Int)) hh.1 m2.1 oM j).1;have hpart:∀i:Nat,(i:Int)<=m.w->zdz (qx m ((j:Int),ov j h y m.h) (kW m (qj m w x) (sps m.h h y j)) (sps m.w w x i)):=fun i hi=>zgj hm hw.1 hh.1 g hi
 have hpos:0 < ov j h y m.h->qx m ((j:Int),ov j h y m.h) (kW m (qj m w x) (sps m.h h y j)) (sps m.w w x m.w.toNat)=kW m (qj m w x) (sps m.h h y (j+1)):=fun k=>zgi k
 have hneg:¬0 < ov j h y m.h->kW m (qj m w x) (sps m.h h y j)=kW m (qj m w x) (sps m.h h y (j+1)):=fun k=>by rw [uM k]
 have o3:ov j h y m.h<=4096:=oM;have o4:=o1.1;clear o1 o2;generalize ov j h y m.h=oy at*;generalize hq:kW m (qj m w x) (sps m.h h y j)=q at*
 refine ⟨Nat,fun i=>⟨[(14,i64 (i:Int)),(13,i64 oy),(12,i64 (j:Int)),(11,.own 2),(10,.loc 1 0),(5,.loc 0 0),(1,i64 w),(2,i64 h),(3,i64 (x:Int)),(4,i64 (y:Int))],[(2,.arr 3 jN 1 (qL (qx m ((j:Int),oy) q (sps m.w w x i)))),(1,.box 37 zPx),(0,.box 28 (ze m))],3,81,0⟩,
  fun i=>(i:Int)<=m.w/\(¬0 < oy->i=0),fun i=>(m.w - i).toNat,0,⟨by show (0:Int)<=m.w;omega,fun _=>rfl⟩,?_,?_⟩
 ·exact zi [(0,some 0),(1,some 1),(2,some 2)] ⟨congrArg (fun q=>some (Mem.arr 3 jN 1 (qL q))) (hq.trans (zcZ m ((j:Int),oy) q w x).symm),rfl,rfl,trivial⟩
 intro i hi2;have hi:(i:Int)<=m.w:=hi2.1;have hi0:¬0 < oy->i=0:=hi2.2
 have fin:(0 < oy->i=m.w.toNat)->qx m ((j:Int),oy) q (sps m.w w x i)=kW m (qj m w x) (sps m.h h y (j+1)):=fun k=>by
  by_cases c:0 < oy
  ·rw [k c];exact hpos c
  ·rw [hi0 c,zcZ];exact hneg c
 refine Br.mk (fun c1=>?_) (fun c1=>?_);rotate_left
 ·have c1:¬(i:Int) < m.w:=c1;refine Ar.o ?_;exact ⟨j+1,by show ((j+1:Nat):Int)<=m.h;omega,zi [(0,some 0),(1,some 1),(2,some 2)] ⟨congrArg (fun q=>some (Mem.arr 3 jN 1 (qL q))) (fin fun _=>by omega),rfl,rfl,trivial⟩,by dsimp only;omega⟩
 have c1:(i:Int) < m.w:=c1;refine Br.mk (fun c2=>?_) (fun c2=>?_);rotate_left
 ·have c2:¬0 < oy:=c2;refine Ar.o ?_;exact ⟨j+1,by show ((j+1:Nat):Int)<=m.h;omega,zi [(0,some 0),(1,some 1),(2,some 2)] ⟨congrArg (fun q=>some (Mem.arr 3 jN 1 (qL q))) (fin fun k=>absurd k c2),rfl,rfl,trivial⟩,by dsimp only;omega⟩
 have c2:0 < oy:=c2;refine zc.t (c_ov i w x m.w oM oM oM oM) ?_;have x1:=(zgg (size:=m.w) (n:=w) (x:=(x:Int)) hw.1 m1.1 oM i);have x2:=(qE (size:=m.w) (n:=w) (x:=(x:Int)) hw.1 m1.1 oM i).1;have x3:=x1.1;have x4:ov i w x m.w<=4096:=oM;have hstep:u4 (qx m ((j:Int),oy) q (sps m.w w x i)) (ue m ((j:Int)*m.w+(i:Int))) (oy*ov i w x m.w)=qx m ((j:Int),oy) q (sps m.w w x (i+1)):=zgh;clear x1 x2;generalize ov i w x m.w=ox at*;have ho:=kZ o4 o3 x3 x4;have hb:=hpart i hi;generalize hs:qx m ((j:Int),oy) q (sps m.w w x i)=z at*
 generalize hoo:oy*ox=o at*;have ho2:0<=o/\o<=4096*4096:=⟨ho.1,oM⟩;clear ho;refine Ar.fit (by rw [hoo];omega) ?_;have hpl:=jI (a:=(i:Int)) (b:=(j:Int)) (w:=m.w) (h:=m.h) ⟨oM,c1⟩ ⟨oM,g⟩ m4;have hp8:=(zbW hm (k:=(j:Int)*m.w+(i:Int)) ⟨hpl.2.2.1,hpl.2.2.2⟩).1
 refine ⟨Nat,fun c=>⟨[(16,i64 (c:Int)),(15,i64 o),(14,i64 (i:Int)),(13,i64 oy),(12,i64 (j:Int)),(11,.own 2),(10,.loc 1 0),(5,.loc 0 0),(1,i64 w),(2,i64 h),(3,i64 (x:Int)),(4,i64 (y:Int))],[(2,.arr 3 jN 1 (qL (yD z (ue m ((j:Int)*m.w+(i:Int))) o c))),(1,.box 37 zPx),(0,.box 28 (ze m))],3,81,0⟩,
  fun c=>c<=4,fun c=>4 - c,0,Nat.zero_le _,?_,?_⟩
 ·exact qN [(0,some 0),(1,some 1),(2,some 2)] ⟨rfl,congrArg (fun n=>some (i64 n)) hoo,rfl,rfl,rfl,rfl,rfl,rfl,rfl,rfl,rfl,rfl,trivial⟩ ⟨congrArg (fun q=>some (Mem.arr 3 jN 1 (qL q))) hs,rfl,rfl,trivial⟩
 intro u hu;have hu:u<=4:=hu;refine Br.mk (fun v=>?_) (fun v=>?_);rotate_left
 ·have v:¬(u:Int) < 4:=v
  have e:yD z (ue m ((j:Int)*m.w+(i:Int))) o u=qx m ((j:Int),oy) q (sps m.w w x (i+1)):=by
   rw [show u=4 by omega];exact hstep
  refine Ar.o ?_;exact ⟨i+1,⟨by show ((i+1:Nat):Int)<=m.w;omega,fun k=>absurd c2 k⟩,zi [(0,some 0),(1,some 1),(2,some 2)] ⟨congrArg (fun q=>some (Mem.arr 3 jN 1 (qL q))) e,rfl,rfl,trivial⟩,by dsimp only;omega⟩
 have v:(u:Int) < 4:=v;refine Dr.d ?_;refine Ob.mk ⟨oM,by rw [yE];exact v⟩ ?_;refine Ob.mk ⟨oM,by rw [yE];exact v⟩ ?_;intro n hn;have hn:(qL (yD z (ue m ((j:Int)*m.w+(i:Int))) o u))[u]? =some n:=hn;(iterate 2 refine Ar.o ?_);refine Ob.o ?_;intro p hpx;have hpx:=zek (m:=m) (k:=(j:Int)*m.w+(i:Int)) hpx;refine zc.t (zef p u (by rw [← hpx];exact hp8) oM) ?_;have hfit:=zgk ho2 (pL_8 (p:=p) (by rw [← hpx];exact hp8) u);refine Ar.fit hfit.1 ?_;refine Ar.fit (zgl (by rw [(zee hn).1];exact zf0 hb u) hfit.2) ?_
 refine Ob.mk ⟨oM,by rw [yE];exact v⟩ ?_;refine Ob.mk ⟨oM,by rw [yE];exact v⟩ ?_;intro y' _;refine ⟨n+o*(pL p).getD u 0,rfl,?_⟩;refine Ob.mk (by kernel_rfl) ?_;refine Ar.o ?_
 exact ⟨u+1,by show u+1<=4;omega,qh [(0,some 0),(1,some 1),(2,some 2)] rfl rfl rfl ⟨rfl,rfl,rfl,rfl,rfl,rfl,rfl,rfl,rfl,rfl,rfl,rfl,trivial⟩
  ⟨congrArg (fun l=>some (Mem.arr 3 jN 1 l)) (by rw [← (zee hn).2,hpx];rfl),rfl,rfl,trivial⟩,by dsimp only;omega⟩
theorem ze6(m:Img)(w h:Int)(hp:∀q∈m.px,P8 q):zf Try.prog 27 [.agg (ze m),i64 w,i64 h] [] (zcQ (qk m w h)) [(0,.arr 37 zb 4 (qk m w h).1.px)]:=by
 generalize hc:qk m w h=c;refine zZ tok mix Try.func27 rfl rfl rfl ?_
 have bad:∀e:Int,c=(⟨0,0,[]⟩,e)->qV none (.tup [.agg [i64 0,i64 0,.val (.slice none 0 0)],i64 e]) (zcQ c)/\c.1.px=[]:=fun e he=>by
  subst he;exact ⟨ja (.cons (jF (.cons (z4 rfl) (.cons (z4 rfl) (.cons (.nil rfl) .nil)))) (.cons (z4 rfl) .nil)),rfl⟩
 refine zc.t (zcP m) ?_;refine Br.mk (fun h1=>⟨none,bad 16 (by rw [← hc,qk,if_pos h1])⟩) (fun h1=>?_);have hm:okM m:=⟨Decidable.not_not.1 h1,hp⟩;refine zc.t (zdy w h) ?_;refine Br.mk (fun h2=>⟨none,bad 6 (by rw [← hc,qk,if_neg h1,if_pos (show ¬jd w h from h2)])⟩) (fun h2=>?_);have hin:jd w h:=Decidable.not_not.1 h2;have hc':c=(⟨w,h,zcX m w h⟩,0):=by rw [← hc,qk,if_neg h1,if_neg (fun hn=>hn hin)]
 clear bad hc h1 h2;subst hc';have w1:=hin.1;have h1:=hin.2.1;have hwh2:=hin.2.2;obtain ⟨W,rfl⟩:∃W:Nat,w=(W:Int):=⟨w.toNat,oM⟩;obtain ⟨H,rfl⟩:∃H:Nat,h=(H:Int):=⟨h.toNat,oM⟩;have hWH:H*W<=65536:=by rw [← Int.natCast_mul,Nat.mul_comm] at hwh2;omega
 clear hwh2 hin
 refine ⟨Nat,fun y=>⟨[(9,i64 (y:Int)),(8,.loc 2 0),(6,.loc 1 0),(3,.loc 0 0),(1,i64 (W:Int)),(2,i64 (H:Int))],[(3,.arr 37 zb 4 (gr (uf m W H) W (y*W))),(2,.box 28 [i64 (W:Int),i64 (H:Int),.own 3]),(1,.box 28 z7),(0,.box 28 (ze m))],4,45,0⟩,
  fun y=>y<=H,fun y=>H - y,0,Nat.zero_le _,?_,?_⟩
 ·exact zi [(0,some 0),(1,some 1),(2,some 2),(3,none)] ⟨by rw [Nat.zero_mul];rfl,rfl,rfl,rfl,trivial⟩
 intro y hy;have hy:y<=H:=hy;refine Br.mk (fun g=>?_) (fun g=>?_);rotate_left
 ·have g:¬(y:Int) < (H:Int):=g;have e:y=H:=oM;refine ⟨some 3,ja (.cons (jF (.cons (z4 rfl) (.cons (z4 rfl) (.cons (.own 3 rfl) .nil)))) (.cons (z4 rfl) .nil)),congrArg (fun l=>some (Mem.arr 37 zb 4 l)) ?_,kF _⟩;unfold zcX;rw [e];rfl
 have g:(y:Int) < (H:Int):=g
 have hyW:y*W+W<=H*W:=by
  have:=Nat.mul_le_mul_right W (show y+1<=H by omega)
  rwa [Nat.add_mul,Nat.one_mul] at this
 refine ⟨Nat,fun x=>⟨[(10,i64 (x:Int)),(9,i64 (y:Int)),(8,.loc 2 0),(6,.loc 1 0),(3,.loc 0 0),(1,i64 (W:Int)),(2,i64 (H:Int))],[(3,.arr 37 zb 4 (gr (uf m W H) W (y*W+x))),(2,.box 28 [i64 (W:Int),i64 (H:Int),.own 3]),(1,.box 28 z7),(0,.box 28 (ze m))],4,45,0⟩,
  fun x=>x<=W,fun x=>W - x,0,Nat.zero_le _,?_,?_⟩
 ·exact z3 [(0,some 0),(1,some 1),(2,some 2),(3,some 3)]
 intro x hx;have hx:x<=W:=hx;refine Br.mk (fun g2=>?_) (fun g2=>?_);rotate_left
 ·have g2:¬(x:Int) < (W:Int):=g2;have e:x=W:=oM;refine Ar.o ?_;exact ⟨y+1,by show y+1<=H;omega,zi [(0,some 0),(1,some 1),(2,some 2),(3,some 3)] ⟨congrArg (fun n=>some (Mem.arr 37 zb 4 (gr (uf m W H) W n))) (by rw [e,Nat.add_mul,Nat.one_mul]),rfl,rfl,rfl,trivial⟩,by dsimp only;omega⟩
 have g2:(x:Int) < (W:Int):=g2;refine Dr.d ?_;refine zc.t (zdE m W H x y hm w1 h1 oM oM) ?_;refine ⟨Pix,zb,[uf m W H x y],rfl,Ob.mk (zbU _) ?_⟩;refine ⟨[uf m W H x y],rfl,Ob.mk (zbV (by rw [zaz];omega)) ?_⟩;refine Ob.mk (by kernel_rfl) ?_;refine Ar.o ?_
 exact ⟨x+1,by show x+1<=W;omega,qh [(0,some 0),(1,some 1),(2,some 2),(3,some 5)] rfl rfl rfl ⟨rfl,rfl,rfl,rfl,rfl,rfl,rfl,trivial⟩
  ⟨congrArg (fun l=>some (Mem.arr 37 zb 4 l)) (vA (show x < W by omega)),rfl,rfl,rfl,trivial⟩,by dsimp only;omega⟩
end Go.Gs
