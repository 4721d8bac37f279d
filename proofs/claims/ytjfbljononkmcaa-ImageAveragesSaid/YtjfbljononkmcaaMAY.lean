/- Pictures of another size: the program's. -/
import Derived.Test.YtjfbljononkmcaaMA
import Derived.Test.YtjfbljononkmcaaMAX
import Derived.Test.YtjfbljononkmcaaMAU
import Derived.Test.YtjfbljononkmcaaMAW
set_option maxRecDepth 100000
set_option maxHeartbeats 8000000
set_option linter.all false
namespace Go.Gs
open Go.Proofs
theorem zjA{size:Int}{n x:Nat}(h:x < n):(ziy size n n)[x]? =some (sps size n x size.toNat):=by
 unfold ziy;rw [List.getElem?_map,List.getElem?_range h];rfl
theorem zkO{l:List (Int×Int)}(hl:∀u∈l,0<=u.2){k:Nat}{u:Int×Int}(h:l[k]? =some u):ziw (l.take k)+u.2<=ziw l:=by
 have:=(ziD hl (k+1)).2;rw [List.take_add_one,h] at this;have e2:l.take k++(some u).toList=l.take k++[u]:=rfl;rw [e2,zjx] at this;exact this
theorem zkr{m:Img}(hm:qr m){w:Int}(hw:1<=w)(x:Nat):0<=ziw (ziQ m w x)/\ziw (ziQ m w x)<=m.w:=zjf hw hm.1.1 oM _
theorem zkS{m:Img}(hm:qr m){h:Int}(hh:1<=h)(y:Nat):0<=ziw (ziO m h y)/\ziw (ziO m h y)<=m.h:=zjf hh hm.2.1.1 oM _
theorem zkH{m:Img}(hm:qr m){w:Int}(hw:1<=w){x k:Nat}{u:Int×Int}(h:(ziQ m w x)[k]? =some u):(0<=u.1/\u.1 < m.w)/\0<=u.2/\u.2<=m.w:=by
 have a:=ziW hm (List.mem_of_getElem? h);have hp:∀u∈ziQ m w x,0<=u.2:=fun u hu=>by have:=ziW hm hu;omega
 have b:=zkO hp h;have c:=(ziD hp k).1;have d:=(zkr hm hw x).2;omega
theorem zjX{m:Img}(hm:qr m){h:Int}(hh:1<=h){y j:Nat}{v:Int×Int}(k:(ziO m h y)[j]? =some v):(0<=v.1/\v.1 < m.h)/\0<=v.2/\ziw ((ziO m h y).take j)+v.2<=m.h:=by
 have a:=ziI hm (List.mem_of_getElem? k);have hp:∀u∈ziO m h y,0<=u.2:=fun u hu=>by have:=ziI hm hu;omega
 have b:=zkO hp k;have d:=(zkS hm hh y).2;omega
theorem zkI{m:Img}(hm:okM m){w h:Int}(hw:1<=w)(hh:1<=h){x y j k:Nat}{v:Int×Int}(hv:(ziO m h y)[j]? =some v):
  bigQ (ziP m v (ziM m (ziQ m w x) ((ziO m h y).take j)) ((ziQ m w x).take k)):=by
 obtain ⟨v1,v2,v3⟩:=zjX hm.1 hh hv;have hc:∀u∈ziQ m w x,(0<=u.1/\u.1 < m.w)/\0<=u.2:=fun u hu=>by have:=ziW hm.1 hu;omega
 have hp:∀u∈ziO m h y,0<=u.2:=fun u hu=>by have:=ziI hm.1 hu;omega
 have a:=zjV hm hc (l:=(ziO m h y).take j) fun v hv=>by have:=ziI hm.1 (List.mem_of_mem_take hv);omega
 have b:=zjU (n:=0) hm ⟨v1,v2⟩ a (l:=(ziQ m w x).take k) fun u hu=>hc u (List.mem_of_mem_take hu)
 have c1:=zkr hm.1 hw x;have c2:=ziD (fun u hu=>(hc u hu).2) k;have c3:=ziD hp j;have hW:=hm.1.1;have hH:=hm.1.2.1;refine zeW b ?_;have e1:=zaU c1.1 (show ziw (ziQ m w x)<=4096 by omega) c3.1 (show ziw ((ziO m h y).take j)<=4096 by omega);have e2:=zaU c2.1 (show ziw ((ziQ m w x).take k)<=4096 by omega) v2 (show v.2<=4096 by omega);omega
theorem ze3{m:Img}{k:Int}{p:Pix}(h:m.px[k.toNat]? =some p):zbh m k=p:=by unfold zbh;rw [List.getD_eq_getElem?_getD,h];rfl
theorem zj7{m:Img}{v:Int×Int}{q:Qd}{l:List (Int×Int)}{k:Nat}{u:Int×Int}{p:Pix}(h:l[k]? =some u)(hp:zbh m (v.1*m.w+u.1)=p):
  zfD (ziP m v q (l.take k)) p (u.2*v.2)=ziP m v q (l.take (k+1)):=by
 rw [List.take_add_one,h,← hp];exact (zkj m v q (l.take k) u).symm
theorem zkT(m:Img)(v:Int×Int)(q:Qd)(l:List (Int×Int)):q=ziP m v q (l.take 0):=rfl
theorem zj8{m:Img}{cols l:List (Int×Int)}{j:Nat}{v:Int×Int}(h:l[j]? =some v):ziP m v (ziM m cols (l.take j)) cols=ziM m cols (l.take (j+1)):=by
 rw [List.take_add_one,h];exact (zkk m cols (l.take j) v).symm
theorem zjB(m:Img)(w h:Int)(hl:m.px.length<=9223372036854775807)(hp:∀q∈m.px,P8 q)(rw_:R64 w)(rh:R64 h):
  zf Try.prog 26 [.agg (kj m),i64 w,i64 h] [] (zju (ziB m w h)) [(0,.arr 37 kd 4 (ziB m w h).1.px)]:=by
 generalize hc:ziB m w h=c;refine kJ tok mix Try.func26 rfl rfl rfl ?_
 have bad:∀e:Int,c=(⟨0,0,[]⟩,e)->jY none (.tup [.agg [i64 0,i64 0,.val (.slice none 0 0)],i64 e]) (zju c)/\c.1.px=[]:=fun e he=>by
  subst he;exact ⟨zaN (.cons (ziU (.cons (zge rfl) (.cons (zge rfl) (.cons (.nil rfl) .nil)))) (.cons (zge rfl) .nil)),rfl⟩
 refine ze.t (zeP m hl) ?_;refine Br.mk (fun h1=>⟨none,bad 16 (by rw [← hc,ziB,if_pos h1])⟩) (fun h1=>?_);have hm:okM m:=⟨Decidable.not_not.1 h1,hp⟩;obtain ⟨m1,m2,m3,m4,_⟩:=id hm.1;have out:¬ziH w h->jY none (.tup [.agg [i64 0,i64 0,.val (.slice none 0 0)],i64 6]) (zju c)/\c.1.px=[]:=fun hn=>bad 6 (by rw [← hc,ziB,if_neg h1,if_pos hn])
 refine Br.mk (fun g1=>⟨none,out fun hn=>by unfold ziH at hn;omega⟩) (fun g1=>?_);refine Br.mk (fun g2=>⟨none,out fun hn=>by unfold ziH at hn;omega⟩) (fun g2=>?_);refine Br.mk (fun g3=>⟨none,out fun hn=>by unfold ziH at hn;omega⟩) (fun g3=>?_);refine Br.mk (fun g4=>⟨none,out fun hn=>by unfold ziH at hn;omega⟩) (fun g4=>?_);have hwh:=zaU (show 0<=w by omega) (show w<=4096 by omega) (show 0<=h by omega) (show h<=4096 by omega);refine Ar.o ?_;refine Br.mk (fun g5=>⟨none,out fun hn=>by unfold ziH at hn;omega⟩) (fun g5=>?_)
 have hin:ziH w h:=⟨oM,oM,oM⟩;have hc':c=(⟨w,h,zi4 m w h⟩,0):=by rw [← hc,ziB,if_neg h1,if_neg (fun hn=>hn hin)]
 clear bad out hc;subst hc';obtain ⟨⟨w1,w2⟩,⟨h1',h2⟩,hwh2⟩:=hin;obtain ⟨W,rfl⟩:∃W:Nat,w=(W:Int):=⟨w.toNat,oM⟩;obtain ⟨H,rfl⟩:∃H:Nat,h=(H:Int):=⟨h.toNat,oM⟩;have hWH:H*W<=65536:=by rw [← Int.natCast_mul,Nat.mul_comm] at hwh2;omega
 clear g1 g2 g3 g4 g5 h1 rw_ rh hwh hwh2;refine Dr.d ?_;refine ze.t (zjW m.w W m1 oM) ?_;refine ze.t (zjW m.h H m2 oM) ?_;refine Ob.mk (by kernel_rfl) ?_;have hCl:=zi9 m.w W W;have hRl:=zi9 m.h H H;have hC:∀x:Nat,x < W->(ziy m.w W W)[x]? =some (ziQ m W x):=fun x hx=>zjA hx
 have hR:∀y:Nat,y < H->(ziy m.h H H)[y]? =some (ziO m H y):=fun y hy=>zjA hy
 generalize ziy m.w W W=C at*;generalize ziy m.h H H=R at*;have hWHi:(W:Int)*(H:Int)<=65536:=by rw [← Int.natCast_mul,Nat.mul_comm];omega
 have hWH0:0<=(W:Int)*(H:Int):=Int.mul_nonneg oM oM;refine Ar.o ?_;refine ⟨Pix,kd,zbK,rfl,Ob.mk ⟨dC,Int.le_refl _,hWH0,by show (W:Int)*(H:Int)*4<=_;omega,oM⟩ ?_⟩;intro hl0;refine ⟨Nat,fun y=>⟨[(64,i64 (y:Int)),(63,i64 (R.length:Int)),(62,.sl spE R),(8,.sl spE C),(10,.loc 3 0),(6,.loc 1 0),(3,.loc 0 0)],[(3,.box 28 [i64 (W:Int),i64 (H:Int),.own 2]),(2,.arr 37 kd 4 (gr (zjd m W H) W (y*W))),(1,.box 28 z7),(0,.box 28 (kj m))],4,121,0⟩,fun y=>y<=H,fun y=>H - y,0,Nat.zero_le _,?_,?_⟩
 ·exact kD [(0,some 0),(1,some 1),(2,some 2),(3,some 3)] ⟨rfl,by rw [Nat.zero_mul];rfl,rfl,rfl,trivial⟩
 intro y hy;have hy:y<=H:=hy;refine Br.mk (fun g=>?_) (fun g=>?_);rotate_left
 ·have g:¬(y:Int) < (R.length:Int):=g;have e:y=H:=oM;refine ⟨some 2,zaN (.cons (ziU (.cons (zge rfl) (.cons (zge rfl) (.cons (.own 2 rfl) .nil)))) (.cons (zge rfl) .nil)),congrArg (fun l=>some (Mem.arr 37 kd 4 l)) ?_,ziz _⟩;unfold zi4;rw [e];rfl
 have g:(y:Int) < (R.length:Int):=g
 have hyW:y*W+W<=H*W:=by
  have:=Nat.mul_le_mul_right W (show y+1<=H by omega)
  rwa [Nat.add_mul,Nat.one_mul] at this
 refine Ob.o ?_;intro r hr;have er:r=ziO m H y:=Option.some.inj ((show R[y]? =some r from hr).symm.trans (hR y oM))
 have hrow:∀(j:Nat) (v:Int×Int),r[j]? =some v->(0<=v.1/\v.1 < m.h)/\0<=v.2/\v.2<=4096:=fun j v hv=>by
  rw [er] at hv;obtain ⟨a,b,d⟩:=zjX hm.1 h1' hv;have:=(ziD (l:=ziO m H y) (fun u hu=>by have:=(ziI hm.1 hu).2;omega) j).1;exact ⟨a,b,oM⟩
 intro hl1;refine ⟨Nat,fun x=>⟨[(70,i64 (x:Int)),(69,i64 (C.length:Int)),(68,.sl spE C),(12,.sl zi0 r),(64,i64 (y:Int)),(63,i64 (R.length:Int)),(62,.sl spE R),(8,.sl spE C),(10,.loc 3 0),(6,.loc 1 0),(3,.loc 0 0)],[(3,.box 28 [i64 (W:Int),i64 (H:Int),.own 2]),(2,.arr 37 kd 4 (gr (zjd m W H) W (y*W+x))),(1,.box 28 z7),(0,.box 28 (kj m))],4,121,0⟩,fun x=>x<=W,fun x=>W - x,0,Nat.zero_le _,?_,?_⟩
 ·exact zo [(0,some 0),(1,some 1),(2,some 2),(3,some 3)]
 intro x hx;have hx:x<=W:=hx;refine Br.mk (fun g2=>?_) (fun g2=>?_);rotate_left
 ·have g2:¬(x:Int) < (C.length:Int):=g2;have e:x=W:=oM;refine Ar.o ?_;exact ⟨y+1,by show y+1<=H;omega,kD [(0,some 0),(1,some 1),(2,some 2),(3,some 3)] ⟨rfl,congrArg (fun n=>some (Mem.arr 37 kd 4 (gr (zjd m W H) W n))) (by rw [e,Nat.add_mul,Nat.one_mul]),rfl,rfl,trivial⟩,by dsimp only;omega⟩
 have g2:(x:Int) < (C.length:Int):=g2;refine Ob.o ?_;intro c hcx;have ec:c=ziQ m W x:=Option.some.inj ((show C[x]? =some c from hcx).symm.trans (hC x oM));have hcol:∀(k:Nat) (u:Int×Int),c[k]? =some u->(0<=u.1/\u.1 < m.w)/\0<=u.2/\u.2<=m.w:=fun k u hu=>by rw [ec] at hu;exact zkH hm.1 w1 hu
 have hpart:∀(j:Nat) (v:Int×Int) (k:Nat),r[j]? =some v->bigQ (ziP m v (ziM m c (r.take j)) (c.take k)):=fun j v k h=>by
  rw [er] at h ⊢;rw [ec];exact zkI hm w1 h1' h
 have hres:inQ (ziM m c r) (m.w*m.h)/\zbg (ziM m c r) (m.w*m.h)=zjd m W H x y:=by
  rw [er,ec];exact ⟨zkQ hm w1 h1' x y,rfl⟩
 intro hl2
 refine ⟨Nat,fun j=>⟨[(76,i64 (j:Int)),(75,i64 (r.length:Int)),(74,.sl zi0 r),(14,.sl zi0 c),(15,.loc 4 0),(70,i64 (x:Int)),(69,i64 (C.length:Int)),(68,.sl spE C),(12,.sl zi0 r),(64,i64 (y:Int)),(63,i64 (R.length:Int)),(62,.sl spE R),(8,.sl spE C),(10,.loc 3 0),(6,.loc 1 0),(3,.loc 0 0)],[(4,.box 75 (qdE (ziM m c (r.take j)))),(3,.box 28 [i64 (W:Int),i64 (H:Int),.own 2]),(2,.arr 37 kd 4 (gr (zjd m W H) W (y*W+x))),(1,.box 28 z7),(0,.box 28 (kj m))],5,121,0⟩,fun j=>j<=r.length,fun j=>r.length - j,0,Nat.zero_le _,?_,?_⟩
 ·exact zo [(0,some 0),(1,some 1),(2,some 2),(3,some 3),(4,some 4)]
 intro j hj;have hj:j<=r.length:=hj;refine Br.mk (fun g3=>?_) (fun g3=>?_);rotate_left
 ·have g3:¬(j:Int) < (r.length:Int):=g3;have e:r.take j=r:=List.take_of_length_le oM;have hres':inQ (ziM m c (r.take j)) (m.w*m.h)/\zbg (ziM m c (r.take j)) (m.w*m.h)=zjd m W H x y:=by rw [e];exact hres
  have hWHm:=zaU (show 0<=m.w by omega) m1.2 (show 0<=m.h by omega) m2.2;refine Dr.d ?_;refine Ar.o ?_
  refine ze.to _ (zki (ziM m c (r.take j)) (m.w*m.h) hres'.1 ⟨by
   have:=Int.mul_le_mul m1.1 m2.1 dC oM
   omega,oM⟩) rfl ?_
  refine ⟨Pix,kd,[zbg (ziM m c (r.take j)) (m.w*m.h)],rfl,Ob.mk (zgM _) ?_⟩;refine ⟨[zbg (ziM m c (r.take j)) (m.w*m.h)],rfl,Ob.mk (zgN (by rw [zjs];omega)) ?_⟩;refine Ob.mk (by kernel_rfl) ?_;refine Ar.o ?_
  exact ⟨x+1,by show x+1<=W;omega,vm [(0,some 0),(1,some 1),(2,some 6),(3,some 3)] rfl rfl rfl ⟨rfl,rfl,rfl,rfl,rfl,rfl,rfl,rfl,rfl,rfl,rfl,trivial⟩
   ⟨rfl,congrArg (fun l=>some (Mem.arr 37 kd 4 l)) (by rw [hres'.2];exact zjR (show x < W by omega)),rfl,rfl,trivial⟩,by dsimp only;omega⟩
 have g3:(j:Int) < (r.length:Int):=g3;refine Ob.o ?_;intro v hv;have hv:r[j]? =some v:=hv;intro hl3
 refine ⟨Nat,fun k=>⟨[(82,i64 (k:Int)),(81,i64 (c.length:Int)),(80,.sl zi0 c),(17,.loc 5 0),(76,i64 (j:Int)),(75,i64 (r.length:Int)),(74,.sl zi0 r),(14,.sl zi0 c),(15,.loc 4 0),(70,i64 (x:Int)),(69,i64 (C.length:Int)),(68,.sl spE C),(12,.sl zi0 r),(64,i64 (y:Int)),(63,i64 (R.length:Int)),(62,.sl spE R),(8,.sl spE C),(10,.loc 3 0),(6,.loc 1 0),(3,.loc 0 0)],[(5,.box 77 (zi0 v)),(4,.box 75 (qdE (ziP m v (ziM m c (r.take j)) (c.take k)))),(3,.box 28 [i64 (W:Int),i64 (H:Int),.own 2]),(2,.arr 37 kd 4 (gr (zjd m W H) W (y*W+x))),(1,.box 28 z7),(0,.box 28 (kj m))],6,121,0⟩,fun k=>k<=c.length,fun k=>c.length - k,0,Nat.zero_le _,?_,?_⟩
 ·exact kD [(0,some 0),(1,some 1),(2,some 2),(3,some 3),(4,some 4),(5,some 5)] ⟨rfl,congrArg (fun q=>some (Mem.box 75 (qdE q))) (zkT m v (ziM m c (r.take j)) c),rfl,rfl,rfl,rfl,trivial⟩
 intro k hk;have hk:k<=c.length:=hk;refine Br.mk (fun g4=>?_) (fun g4=>?_);rotate_left
 ·have g4:¬(k:Int) < (c.length:Int):=g4;have e:c.take k=c:=List.take_of_length_le oM;refine Ar.o ?_
  exact ⟨j+1,by show j+1<=r.length;omega,vm [(0,some 0),(1,some 1),(2,some 2),(3,some 3),(4,some 4)] rfl rfl rfl ⟨rfl,rfl,rfl,rfl,rfl,rfl,rfl,rfl,rfl,rfl,rfl,rfl,rfl,rfl,rfl,rfl,trivial⟩
   ⟨congrArg (fun q=>some (Mem.box 75 (qdE q))) (by rw [e];exact zj8 hv),rfl,rfl,rfl,rfl,trivial⟩,by dsimp only;omega⟩
 have g4:(k:Int) < (c.length:Int):=g4;refine Ob.o ?_;intro u hu;have hu:c[k]? =some u:=hu;have v1:=(hrow j v hv).1;have v2:=(hrow j v hv).2.1;have v4:=(hrow j v hv).2.2;have u1:=(hcol k u hu).1;have u2:=(hcol k u hu).2.1;have u3:=(hcol k u hu).2.2;have hpl:=ziV (a:=u.1) (b:=v.1) (w:=m.w) (h:=m.h) u1 v1 m4;have hwt:=zaU u2 (show u.2<=4096 by omega) v2 v4;refine Dr.d ?_;(iterate 2 refine Ar.o ?_);refine Ob.o ?_;intro p hpx;have hpx:=ze3 (m:=m) (k:=v.1*m.w+u.1) hpx;refine Ar.o ?_
 refine ze.hand 4 _ _ _ rfl (zil _ p (u.2*v.2) (hpart j v k hv) (by rw [← hpx];exact (zeZ hm ⟨hpl.2.2.1,hpl.2.2.2⟩).1) oM) rfl rfl rfl rfl ?_;refine Ob.mk (by kernel_rfl) ?_;refine Ar.o ?_
 exact ⟨k+1,by show k+1<=c.length;omega,vm [(0,some 0),(1,some 1),(2,some 2),(3,some 3),(4,some 4),(5,some 5)] rfl rfl rfl ⟨rfl,rfl,rfl,rfl,rfl,rfl,rfl,rfl,rfl,rfl,rfl,rfl,rfl,rfl,rfl,rfl,rfl,rfl,rfl,rfl,trivial⟩
  ⟨rfl,congrArg (fun q=>some (Mem.box 75 (qdE q))) (zj7 hu hpx),rfl,rfl,rfl,rfl,trivial⟩,by dsimp only;omega⟩
theorem zja(q:Qd)(p:Pix):zfD q p 0=q:=by
 unfold zfD;simp only [Int.zero_mul,Int.add_zero]
theorem zdD{key:Int->Int}{b:List Int}{j:Nat}{x:Int}(h:b[j]? =some x):je key (b.take (j+1))=min (je key (b.take j)) (key x):=by
 rw [List.take_add_one,h,Option.toList_some,ze0]
theorem zbP{key:Int->Int}{b:List Int}{j:Nat}{x:Int}(h:b[j]? =some x):kU key (b.take (j+1))=max (kU key (b.take j)) (key x):=by
 rw [List.take_add_one,h,Option.toList_some,zdx]
theorem qv{a b:Int}(h:a=b):some (i64 a)=some (i64 b):=by rw [h]
theorem u0{m:Img}{c:Nat}{x:Int}{p:Pix}(h:m.px[x.toNat]? =some p):zC m c x=(pL p).getD c 0:=by
 unfold zC;have e:m.px.getD x.toNat zbK=p:=by rw [List.getD_eq_getElem?_getD,h];rfl
 rw [e]
theorem ze4{m:Img}(hp:P8s m){i:Nat}{p:Pix}(h:m.px[i]? =some p):P8 p:=hp p (List.mem_of_getElem? h)
theorem zgX(m:Img)(b:List Int)(hp:P8s m)(hb:InP m b):zf Try.prog 80 [.agg (kj m),.sl zq b] [] (.tup [i64 (jf m b).1,i64 (jf m b).2]) []:=by
 refine zh tok mix Try.func80 rfl rfl rfl ?_;refine ⟨Nat,fun i=>⟨[(14,i64 (i:Int)),(6,i64 (kP m b (0,0) i).1),(7,i64 (kP m b (0,0) i).2),(1,.sl zq b),(2,.loc 0 0)],[(0,.box 28 (kj m))],1,49,0⟩,fun i=>i<=4,fun i=>4 - i,0,Nat.zero_le _,?_,?_⟩
 ·exact zo [(0,some 0)]
 intro i hi;have hi:i<=4:=hi;obtain ⟨r1,r2,_⟩:=vq hp b i hi;refine Br.mk (fun g=>?_) (fun g=>?_)
 ·have g:(i:Int) < 4:=g;have hk:=qN hp i;intro hl;have hl:b.length<=9223372036854775807:=hl;refine ⟨Nat,fun j=>⟨[(19,i64 (j:Int)),(9,i64 (je (zC m i) (b.take j))),(10,i64 (kU (zC m i) (b.take j))),(17,.sl zq b),(18,i64 (b.length:Int)),(8,i64 (i:Int)),(14,i64 (i:Int)),(6,i64 (kP m b (0,0) i).1),(7,i64 (kP m b (0,0) i).2),(1,.sl zq b),(2,.loc 0 0)],[(0,.box 28 (kj m))],1,49,0⟩,fun j=>j<=b.length,fun j=>b.length - j,0,Nat.zero_le _,?_,?_⟩
  ·exact ki [(0,some 0)] ⟨rfl,qv (by rw [List.take_zero];rfl),qv (by rw [List.take_zero];rfl),rfl,rfl,rfl,rfl,rfl,rfl,rfl,rfl,trivial⟩ ⟨rfl,trivial⟩
  intro j hj;have hj:j<=b.length:=hj;refine Br.mk (fun h=>?_) (fun h=>?_)
  ·have h:(j:Int) < (b.length:Int):=h;refine Ob.o ?_;intro x hx;have hx:b[j]? =some x:=hx;refine Ob.mk (hb.at hx) ?_;intro p hpx;have hpx:m.px[x.toNat]? =some p:=hpx;refine ze.t (zeh p i (ze4 hp hpx) oM) ?_;refine Ar.o ?_;refine ⟨j+1,by show j+1<=b.length;omega,ki [(0,some 0)] ⟨rfl,qv ?_,qv ?_,rfl,rfl,rfl,rfl,rfl,rfl,rfl,rfl,trivial⟩ ⟨rfl,trivial⟩,by dsimp only;omega⟩
   ·rw [zdD hx,u0 hpx];rfl
   ·rw [zbP hx,u0 hpx];rfl
  ·have h:¬(j:Int) < (b.length:Int):=h;obtain rfl:j=b.length:=oM;obtain ⟨k1,k2,_⟩:=zgR hk b;have e:kU (zC m i) b - je (zC m i) b=yi m b i:=rfl;have et:b.take b.length=b:=List.take_length;have e0:kU (zC m i) (b.take b.length) - je (zC m i) (b.take b.length)=yi m b i:=by rw [et];exact e
   have k1:0<=je (zC m i) (b.take b.length)/\je (zC m i) (b.take b.length)<=255:=by rw [et];exact k1
   have k2:0<=kU (zC m i) (b.take b.length)/\kU (zC m i) (b.take b.length)<=255:=by rw [et];exact k2
   refine Ar.o ?_;refine Br.mk (fun q=>?_) (fun q=>?_)
   ·have q:(kP m b (0,0) i).1 < kU (zC m i) (b.take b.length) - je (zC m i) (b.take b.length):=q;rw [e0] at q;have e2:kP m b (0,0) (i+1)=(yi m b i,(i:Int)):=if_pos q;(iterate 2 refine Ar.o ?_);exact ⟨i+1,by show i+1<=4;omega,ki [(0,some 0)] ⟨rfl,qv (by rw [e2];exact e0),qv (by rw [e2]),rfl,rfl,trivial⟩ ⟨rfl,trivial⟩,by dsimp only;omega⟩
   ·have q:¬(kP m b (0,0) i).1 < kU (zC m i) (b.take b.length) - je (zC m i) (b.take b.length):=q;rw [e0] at q;have e2:kP m b (0,0) (i+1)=kP m b (0,0) i:=if_neg q;refine Ar.o ?_;exact ⟨i+1,by show i+1<=4;omega,ki [(0,some 0)] ⟨rfl,qv (by rw [e2]),qv (by rw [e2]),rfl,rfl,trivial⟩ ⟨rfl,trivial⟩,by dsimp only;omega⟩
 ·have g:¬(i:Int) < 4:=g;obtain rfl:i=4:=oM;exact .refl
def qt(ws:List (Nat×Nat)):List (List SV):=ws.map fun w=>[.win 1 1 (w.1:Int) (w.2:Int)]
theorem qI(ws:List (Nat×Nat)):(qt ws).length=ws.length:=by simp [qt]
theorem yW{ws:List (Nat×Nat)}{i:Nat}{x:List SV}(h:(qt ws)[i]? =some x):∃u,ws[i]? =some u/\x=[.win 1 1 (u.1:Int) (u.2:Int)]:=by
 unfold qt at h;rw [List.getElem?_map] at h
 cases hu:ws[i]? with
 | none=>rw [hu] at h;cases h
 | some u=>rw [hu] at h;cases h;exact ⟨u,rfl,rfl⟩
theorem qu{tb:List (Nat×Option Nat)}(h:qR tb 1=some (some 1))(ws:List (Nat×Nat))(i:Nat)(x:List SV)(hx:(qt ws)[i]? =some x):∃x',(qt ws)[i]? =some x'/\ren.rens tb x=some x':=by
 obtain ⟨u,_,rfl⟩:=yW hx;refine ⟨_,hx,?_⟩;simp only [ren.rens,ren,h]
theorem zej(l:List Int)(a n:Nat):(l.drop a).take n=seg l a (a+n):=by unfold seg;congr 1;omega
theorem zhA{m:Img}{l:List Int}(h:InP m l)(a b:Nat):InP m (seg l a b):=fun x hx=>h x (List.mem_of_mem_drop (List.mem_of_mem_take hx))
abbrev Mws(l:List Int)(ws:List (Nat×Nat)):List (Nat×Mem):=[(0,.garr 53 1 (qt ws)),(1,.arr 3 zq 1 l)]
def wideT(w:Int×Int×Int):SV:=.tup [i64 w.1,i64 w.2.1,i64 w.2.2]
theorem zgY(m:Img)(l:List Int)(ws:List (Nat×Nat))(hp:P8s m)(hl:InP m l):zf Try.prog 73 [.agg (kj m),.own 0] (Mws l ws) (wideT (zy m (zI l ws))) (Mws l ws):=by
 refine zaY tok mix Try.func73 rfl rfl rfl ?_;intro hlen;rw [qI] at hlen ⊢;have eb:(zI l ws).length=ws.length:=by simp [zI]
 refine ⟨Nat,fun i=>⟨[(16,i64 (i:Int)),(7,i64 (zR m (zI l ws) (0,0,0) i).1),(8,i64 (zR m (zI l ws) (0,0,0) i).2.1),(9,i64 (zR m (zI l ws) (0,0,0) i).2.2),(14,.own 0),(15,i64 (ws.length:Int)),(2,.loc 2 0)],
  [(0,.garr 53 1 (qt ws)),(1,.arr 3 zq 1 l),(2,.box 28 (kj m))],3,37,2⟩,fun i=>i<=ws.length,fun i=>ws.length - i,0,Nat.zero_le _,?_,?_⟩
 ·exact kD [(0,some 0),(1,some 1),(2,some 2)] ⟨⟨_,rfl,rfl,qu rfl ws⟩,rfl,rfl,trivial⟩
 intro i hi;have hi:i<=ws.length:=hi;refine Br.mk (fun g=>?_) (fun g=>?_)
 ·have g:(i:Int) < (ws.length:Int):=g;refine Ob.mk (by rw [qI];omega) ?_;refine Ob.mk (by rw [qI];omega) ?_;intro x hx;obtain ⟨u,hu,hx⟩:=yW hx;have hu:ws[i]? =some u:=hu;rw [hx];have ce:=zgX m ((l.drop u.1).take u.2) hp (by rw [zej];exact zhA hl _ _);rw [zej,← uZ hu] at ce;have ee:(l.drop u.1).take u.2=(zI l ws).getD i []:=by rw [zej,uZ hu]
  have ce:zf Try.prog 80 [.agg (kj m),.sl zq ((l.drop u.1).take u.2)] [] _ []:=ee ▸ ce;refine ze.t ce ?_;refine Br.mk (fun q=>?_) (fun q=>?_)
  ·have q:(zR m (zI l ws) (0,0,0) i).2.1 < (jf m ((l.drop u.1).take u.2)).1:=q;rw [ee] at q;have e2:zR m (zI l ws) (0,0,0) (i+1)=((i:Int),jf m ((zI l ws).getD i [])):=if_pos q;refine Ar.o ?_;exact ⟨i+1,by show i+1<=ws.length;omega,ki [(0,some 0),(1,some 1),(2,some 2)] ⟨rfl,qv (by rw [e2]),qv (by rw [e2,ee]),qv (by rw [e2,ee]),rfl,rfl,rfl,trivial⟩ ⟨⟨_,rfl,rfl,qu rfl ws⟩,rfl,rfl,trivial⟩,by dsimp only;omega⟩
  ·have q:¬(zR m (zI l ws) (0,0,0) i).2.1 < (jf m ((l.drop u.1).take u.2)).1:=q;rw [ee] at q;have e2:zR m (zI l ws) (0,0,0) (i+1)=zR m (zI l ws) (0,0,0) i:=if_neg q;refine Ar.o ?_;exact ⟨i+1,by show i+1<=ws.length;omega,ki [(0,some 0),(1,some 1),(2,some 2)] ⟨rfl,qv (by rw [e2]),qv (by rw [e2]),qv (by rw [e2]),rfl,rfl,rfl,trivial⟩ ⟨⟨_,rfl,rfl,qu rfl ws⟩,rfl,rfl,trivial⟩,by dsimp only;omega⟩
 ·have g:¬(i:Int) < (ws.length:Int):=g;obtain rfl:i=ws.length:=oM;refine ⟨⟨[(4,i64 (zy m (zI l ws)).1),(5,i64 (zy m (zI l ws)).2.1),(6,i64 (zy m (zI l ws)).2.2)],Mws l ws,2,37,2⟩,?_,rfl,.refl⟩;unfold zy;rw [eb];exact kD [(0,some 0),(1,some 1)] ⟨⟨_,rfl,rfl,qu rfl ws⟩,rfl,trivial⟩
theorem zgZ{σ:St}(k k0:Nat){T T0:TypeId}{α:Type}{enc:α->List SV}{sz:Nat}{ys:List α}(hk:zl σ.M k=some (.arr T enc sz ys))(h0:zl σ.M k0=some (.garr T0 1 [[.own k]]))(hy:ys≠[]):
  Sub σ ⟨σ.L,zJ σ.M k0 (.garr T0 1 [[.win k sz 0 (ys.length:Int)]]),σ.nk,σ.nt,σ.n0⟩:=by
 intro E ρ a w hr;obtain ⟨ρ',h⟩:=zhz (σ:=σ) k0 (m':=.garr T0 1 [[.own k]]) h0 (fun _ _ _ _ h=>h) E ρ a w hr;refine ⟨ρ,?_⟩;have hkeys:∀{m:Mem},(zJ σ.M k0 m).map (·.1)=σ.M.map (·.1):=qx;have hown:∀{m:Mem} b,Own (zJ σ.M k0 m) ρ b->Own σ.M ρ b:=fun b hb=>k8 hkeys.symm hb
 have hown':∀{m:Mem} b,Own σ.M ρ b->Own (zJ σ.M k0 m) ρ b:=fun b hb=>k8 hkeys hb
 have eo:∀{m:Mem},Own (zJ σ.M k0 m) ρ=Own σ.M ρ:=funext fun b=>propext ⟨hown b,hown' b⟩
 refine ⟨hr.size,hr.defers,fun t s hl=>?_,⟨fun k1 m1 h1=>?_,kv hkeys hr.mem.keys,fun k1 m1 k2 m2 v1 v2 b h1 h2=>?_,fun b hb=>hr.mem.old b (hown b hb),hr.mem.kp,hr.mem.glO hown⟩,
  hr.fresh,?_,hr.keep,hr.low⟩
 ·show t < σ.nt/\G (fun b=>E.Keep b∨Own (zJ σ.M k0 _) ρ b) (Own (zJ σ.M k0 _) ρ) ρ w s (a.tmps.getD t undef);rw [eo];exact hr.regs t s hl
 ·show kL (fun b=>E.Keep b∨Own (zJ σ.M k0 _) ρ b) (Own (zJ σ.M k0 _) ρ) ρ w k1 m1;rw [eo]
  rcases z4 hr.mem.keys _ h1 with ⟨_,h2⟩ | h2
  ·exact hr.mem.rel k1 m1 h2
  ·cases h2
   obtain ⟨v,cells,g1,g2,g3,g4,g5,g6⟩:=hr.mem.rel k0 _ (zg h0);obtain ⟨v',cells',f1,f2,_⟩:=hr.mem.rel k _ (zg hk);refine ⟨v,cells,g1,g2,g3,g4,fun x hx=>by rw [List.mem_singleton.1 hx];rfl,fun i j x s hx hs=>?_⟩
   match i,hx with
   | 0,hx=>
    cases hx
    match j,hs with
    | 0,hs=>
     cases hs
     obtain ⟨u,hu,hgu⟩:=g6 0 0 _ _ rfl rfl;refine ⟨u,hu,?_⟩;have e:=hgu.own_inv.1;rw [f1] at e
     cases e
     rcases f2.2 with ⟨_,h00⟩ | ⟨g,cap,cur,hx,_,_,hnc,_⟩
     ·exact absurd (List.eq_nil_of_length_eq_zero h00) hy
     ·subst hx;have:=G.win (S:=fun b=>E.Keep b∨Own σ.M ρ b) (Pm:=Own σ.M ρ) (w:=w) k sz 0 (ys.length:Int) g ys.length cap cap f1 (by simp) (by simpa using hnc)
      simpa using this
    | j+1,hs=>cases hs
   | i+1,hx=>cases hx
 ·have back:∀{m:Mem} k1 m1,(k1,m1)∈zJ σ.M k0 m->∃m',(k1,m')∈σ.M:=fun k1 m1 h=>by
   rcases z4 hr.mem.keys _ h with ⟨_,h2⟩ | h2
   ·exact ⟨m1,h2⟩
   ·cases h2;exact ⟨_,zg h0⟩
  obtain ⟨m1',h1'⟩:=back _ _ h1;obtain ⟨m2',h2'⟩:=back _ _ h2;exact hr.mem.apart k1 m1' k2 m2' v1 v2 b h1' h2'
 ·show Stp E.W0 (Own (zJ σ.M k0 _) ρ) E.ρ0 ρ E.w0 w;rw [eo];exact hr.stp
def vu(m:Img)(n:Nat):Nat->List Int×List (Nat×Nat)->List Int×List (Nat×Nat)
 | 0,s=>s
 | f+1,s=>if s.2.length < n then (if (zy m (zI s.1 s.2)).2.1=0 then s else
   vu m n f (kf (zC m (zy m (zI s.1 s.2)).2.2.toNat) s.1 (s.2.getD (zy m (zI s.1 s.2)).1.toNat (0,0)).1 ((s.2.getD (zy m (zI s.1 s.2)).1.toNat (0,0)).1+(s.2.getD (zy m (zI s.1 s.2)).1.toNat (0,0)).2),
    uY s.2 (zy m (zI s.1 s.2)).1.toNat (s.2.getD (zy m (zI s.1 s.2)).1.toNat (0,0)))) else s
def zbi(m:Img)(n:Nat):List Int×List (Nat×Nat):=vu m n n (yj m,[(0,m.px.length)])
theorem qJ(l:List Int)(ws:List (Nat×Nat)):(zI l ws).length=ws.length:=by simp [zI]
theorem zdE{m:Img}(hp:P8s m)(n:Nat):∀(f:Nat) (l:List Int) (ws:List (Nat×Nat)),zdB l ws->un m (zI l ws)->zI (vu m n f (l,ws)).1 (vu m n f (l,ws)).2=vt m n f (zI l ws)/\zdB (vu m n f (l,ws)).1 (vu m n f (l,ws)).2
 | 0,l,ws,h,_=>⟨rfl,h⟩
 | f+1,l,ws,h,hb=>by
  unfold vu vt;rw [qJ];dsimp only
  split
  ·split
   ·exact ⟨rfl,h⟩
   ·rename_i h2;obtain ⟨⟨h3,_⟩,_⟩:=uW hp hb h2;rw [qJ] at h3
    have hu:ws[(zy m (zI l ws)).1.toNat]? =some (ws.getD (zy m (zI l ws)).1.toNat (0,0)):=by
     rw [List.getD_eq_getElem?_getD,List.getElem?_eq_getElem h3];rfl
    obtain ⟨_,k2,k3⟩:=ze2 hp h hb h2 hu;have:=zdE hp n f _ _ k2 (k3 ▸ (vY hp hb h2).1);rw [k3] at this;exact this
  ·exact ⟨rfl,h⟩
theorem jM(m:Img):(yj m).length=m.px.length:=by simp [yj]
theorem zcz(m:Img):zI (yj m) [(0,m.px.length)]=[yj m]:=by
 show [seg (yj m) 0 (0+m.px.length)]=_;unfold seg;rw [List.drop_zero,List.take_of_length_le (by rw [jM];omega)]
theorem zg0{m:Img}(h:1<=m.px.length):zdB (yj m) [(0,m.px.length)]:=by
 refine ⟨fun i j u v hij hu hv=>?_,fun w hw=>?_⟩
 ·have:=(List.getElem?_eq_some_iff.1 hu).1;have:=(List.getElem?_eq_some_iff.1 hv).1;simp at*;omega
 ·obtain rfl:=List.mem_singleton.1 hw;exact ⟨h,by rw [jM];simp⟩
theorem zg1{m:Img}(hp:P8s m)(hm:qr m)(h:1<=m.px.length)(n:Nat):zI (zbi m n).1 (zbi m n).2=yK m n/\zdB (zbi m n).1 (zbi m n).2:=by
 have:=zdE hp n n _ _ (zg0 h) (by rw [zcz];exact uX hm)
 rwa [zcz] at this
theorem jN(κ:Nat)(ws:List (Nat×Nat)):(qt ws).map (k6.rens [2,1] κ)=qt ws:=by
 unfold qt;rw [List.map_map];rfl
theorem zg2(ws:List (Nat×Nat)):∀x∈qt ws,yl.lows 2 x=true:=fun x hx=>by
 obtain ⟨u,_,rfl⟩:=List.mem_map.1 hx;rfl
theorem zdF(ws:List (Nat×Nat)):∀x∈qt ws,ym.outs 2 x=true:=fun x hx=>by
 obtain ⟨u,_,rfl⟩:=List.mem_map.1 hx;rfl
theorem zcA{m:Img}(hm:qr m):1<=m.px.length/\m.px.length<=65536:=by
 obtain ⟨m1,m2,m3,m4,_⟩:=hm;have hpos:0 < m.w*m.h:=Int.mul_pos oM oM;omega
theorem c_cut(m:Img)(n:Nat)(hp:P8s m)(hm:qr m)(hn:1<=n/\n<=256):zf Try.prog 62 [.agg (kj m),i64 (n:Int)] [] (.own 0) (Mws (zbi m n).1 (zbi m n).2):=by
 obtain ⟨N1,N2⟩:=zcA hm;refine zaY tok mix Try.func62 rfl rfl rfl ?_;intro _;refine ⟨Int,zq,0,rfl,Ob.o2 ?_⟩;have eN:(List.replicate (m.px.length:Int).toNat (0:Int)).length=m.px.length:=by simp
 intro _;rw [eN]
 refine ⟨Nat×List Int,fun ⟨i,s⟩=>⟨[(19,i64 (i:Int)),(18,i64 (m.px.length:Int)),(5,.own 1),(2,.loc 0 0),(1,i64 (n:Int))],[(1,.arr 3 zq 1 s),(0,.box 28 (kj m))],2,66,0⟩,
  fun z=>z.1<=m.px.length/\z.2.length=m.px.length/\∀q,q < z.1->gz z.2 q=q,fun z=>m.px.length - z.1,(0,List.replicate (m.px.length:Int).toNat 0),⟨Nat.zero_le _,eN,fun q h=>absurd h (Nat.not_lt_zero q)⟩,?_,?_⟩
 ·exact zo [(0,some 0),(1,some 1)]
 rintro ⟨i,s⟩ ⟨hi,hs,hq⟩
 have hi:i<=m.px.length:=hi;have hs:s.length=m.px.length:=hs;have hq:∀q,q < i->gz s q=q:=hq;refine Br.mk (fun g=>?_) (fun g=>?_)
 ·have g:(i:Int) < (m.px.length:Int):=g;refine Ob.o ?_;refine Ob.o ?_;intro _ _;refine ⟨(i:Int),rfl,?_⟩;refine Ar.o ?_;refine ⟨(i+1,s.set (i:Int).toNat (i:Int)),⟨by show i+1<=m.px.length;omega,by show (s.set _ _).length=_;rw [List.length_set];exact hs,fun q h=>?_⟩,zo [(0,some 0),(1,some 1)],by dsimp only;omega⟩;have h:q < i+1:=h;show gz (s.set (i:Int).toNat (i:Int)) q=q;rw [Int.toNat_natCast,zct]
  by_cases c:i=q
  ·subst c;rw [if_pos ⟨rfl,oM⟩]
  ·rw [if_neg (fun k=>c k.1)];exact hq q oM
 have g:¬(i:Int) < (m.px.length:Int):=g;obtain rfl:i=m.px.length:=oM
 have es:s=yj m:=qi (by rw [hs,jM]) fun q h=>by
  rw [hq q oM];unfold gz yj;rw [List.getD_eq_getElem?_getD,List.getElem?_map,List.getElem?_range oM];rfl
 subst es;clear hq hs hi;refine ⟨[[.own 1]],rfl,Ob.o1 ?_⟩
 refine ⟨Nat×List Int×List (Nat×Nat),fun ⟨_,l,ws⟩=>⟨[(7,.own 2),(2,.loc 0 0),(1,i64 (n:Int))],[(2,.garr 53 1 (qt ws)),(1,.arr 3 zq 1 l),(0,.box 28 (kj m))],3,66,0⟩,
  fun z=>vu m n z.1 z.2=zbi m n/\zdB z.2.1 z.2.2/\un m (zI z.2.1 z.2.2)/\InP m z.2.1/\z.2.1.length=m.px.length/\n<=z.1+z.2.2.length/\z.2.2.length<=n,fun z=>z.1,(n,yj m,[(0,m.px.length)]),⟨rfl,zg0 N1,by rw [zcz];exact uX hm,((uX hm).2 _ (.head _)).2.1,jM m,by dsimp only;omega,by dsimp only;simp;omega⟩,?_,?_⟩
 ·refine (zgZ 1 2 rfl rfl (fun e=>by have:=jM m;rw [e,List.length_nil] at this;omega)).trans ?_;rw [jM];exact kD [(0,some 0),(1,some 1),(2,some 2)] ⟨⟨_,rfl,rfl,qu rfl [(0,m.px.length)]⟩,rfl,rfl,trivial⟩
 rintro ⟨f,l,ws⟩ ⟨h1,h2,h3,h4,h5,h6,h7⟩
 have h1:vu m n f (l,ws)=zbi m n:=h1;have h2:zdB l ws:=h2;have h3:un m (zI l ws):=h3;have h4:InP m l:=h4;have h5:l.length=m.px.length:=h5;have h6:n<=f+ws.length:=h6;have h7:ws.length<=n:=h7;intro _;rw [qI];refine Br.mk (fun g=>?_) (fun g=>?_);rotate_left
 ·have g:¬(ws.length:Int) < (n:Int):=g
  have e:vu m n f (l,ws)=(l,ws):=by
   cases f with
   | zero=>rfl
   | succ f=>exact if_neg (by show ¬ws.length < n;omega)
  rw [← h1,e];exact ⟨⟨[(4,.own 0)],Mws l ws,2,66,0⟩,kD [(0,some 2),(1,some 1)] ⟨⟨_,rfl,rfl,qu rfl ws⟩,rfl,trivial⟩,rfl,.refl⟩
 have g:(ws.length:Int) < (n:Int):=g;obtain ⟨f,rfl⟩:∃k,f=k+1:=⟨f - 1,oM⟩;have cw:=zgY m l ws hp h4;obtain ⟨w1,w2,w3,_⟩:=uV hp (zI l ws) (zI l ws).length
 obtain ⟨a,e,c,hw⟩:∃(a:Nat) (e:Int) (c:Nat),zy m (zI l ws)=((a:Int),e,(c:Int)):=⟨(zy m (zI l ws)).1.toNat,(zy m (zI l ws)).2.1,(zy m (zI l ws)).2.2.toNat,
  Prod.ext (Int.toNat_of_nonneg w3.1).symm (Prod.ext rfl (Int.toNat_of_nonneg w2.1).symm)⟩
 have step:vu m n (f+1) (l,ws)=if e=0 then (l,ws) else vu m n f (kf (zC m c) l (ws.getD a (0,0)).1 ((ws.getD a (0,0)).1+(ws.getD a (0,0)).2),uY ws a (ws.getD a (0,0))):=by
  rw [vu,hw,if_pos (by dsimp only;omega)];rfl
 rw [hw] at cw;have cw:zf Try.prog 73 [.agg (kj m),.own 0] (Mws l ws) (.tup [i64 (a:Int),i64 e,i64 (c:Int)]) (Mws l ws):=cw;refine ze.give [2,1] 0 [.agg (kj m),.own 0] (Mws l ws) (Mws l ws) _ cw LEs.refl rfl rfl rfl ⟨⟨_,rfl,congrArg (fun z=>some (Mem.garr 53 1 z)) (jN _ ws).symm,zg2 ws⟩,⟨_,rfl,rfl,trivial⟩,trivial⟩ rfl ⟨⟨rfl,zdF ws⟩,⟨rfl,trivial⟩,trivial⟩ ?_;refine Br.mk (fun q=>?_) (fun q=>?_)
 ·have q:e=0:=q;rw [if_pos q] at step;rw [← h1,step];exact ⟨⟨[(4,.own 0)],Mws l ws,2,66,0⟩,kD [(0,some 2),(1,some 1)] ⟨⟨qt ws,congrArg (fun z=>some (Mem.garr 53 1 z)) (jN _ ws),rfl,qu rfl ws⟩,rfl,trivial⟩,rfl,.refl⟩
 have q:¬e=0:=q;rw [if_neg q] at step;have hne:(zy m (zI l ws)).2.1≠0:=by rw [hw];exact q
 obtain ⟨⟨x1,_⟩,⟨x2,_⟩,_⟩:=uW hp h3 hne;rw [hw,qJ] at x1;rw [hw] at x2;have x1:a < ws.length:=x1;have x2:c < 4:=x2;have hu:ws[a]? =some (ws.getD a (0,0)):=by rw [List.getD_eq_getElem?_getD,List.getElem?_eq_getElem x1];rfl
 have hu':ws[(zy m (zI l ws)).1.toNat]? =some (ws.getD a (0,0)):=by rw [hw];exact hu
 obtain ⟨y1,y2,y3⟩:=ze2 hp h2 h3 hne hu';rw [hw] at y2 y3;have y0:=(h2.2 _ (List.mem_of_getElem? hu)).2;have hcut:=vY hp h3 hne;rw [← y3] at hcut;generalize ws.getD a (0,0)=u at*;have kp:=(zit (qN hp c) (l:=l) (a:=u.1) (b:=u.1+u.2) oM y0).1;have hml:((qt ws).map (k6.rens [2,1] 3)).length=ws.length:=by rw [jN,qI]
 refine Ob.mk (by rw [hml];omega) ?_;refine Ob.mk (by rw [hml];omega) ?_;intro x hx
 have hx:x=[.win 1 1 (u.1:Int) (u.2:Int)]:=by
  have hx:((qt ws).map (k6.rens [2,1] 3))[a]? =some x:=hx;rw [jN] at hx;obtain ⟨v,hv,e⟩:=yW hx;rw [hu] at hv
  cases hv;exact e
 rw [hx];refine ze.hand 1 _ _ _ rfl (zhx m c l u.1 u.2 hp x2 h4 oM y0) (zk _ _) (zk _ _) rfl rfl ?_;refine Ob.o ?_;refine Dv.pos ⟨oM,dC,by show (u.2:Int)<=9223372036854775807;omega⟩ ?_;refine Ob.o ?_;refine Ob.mk (by rw [hml];omega) ?_;refine Ob.mk (by rw [hml];omega) ?_;intro x' hx'
 have hx':x'=[.win 1 1 (u.1:Int) (u.2:Int)]:=by
  have hx':((qt ws).map (k6.rens [2,1] 3))[a]? =some x':=hx';rw [jN] at hx';obtain ⟨v,hv,e⟩:=yW hx';rw [hu] at hv
  cases hv;exact e
 rw [hx'];refine Ob.o ?_;refine ⟨[[.win 1 1 ((u.1:Int)+(u.2:Int) / 2) ((u.2:Int) - (u.2:Int) / 2)]],rfl,Ob.o1 ?_⟩;refine Ob.mk ⟨by show (_+_)*(24:Int)<=_;rw [List.length_set,hml,List.length_singleton];omega,by rw [List.length_set,hml,List.length_singleton];omega,dC⟩ ?_;refine ⟨(f,kf (zC m c) l u.1 (u.1+u.2),uY ws a u),⟨by rw [← step];exact h1,y2,hcut.1,h4.of kp.same,by show (kf _ _ _ _).length=_;rw [kp.len];exact h5,?_,?_⟩,?_,Nat.lt_succ_self f⟩
 ·have:=hcut.2;rw [qJ,qJ] at this;have this:(uY ws a u).length=ws.length+1:=this;show n<=f+(uY ws a u).length;omega
 ·have:=hcut.2;rw [qJ,qJ] at this;have this:(uY ws a u).length=ws.length+1:=this;show (uY ws a u).length<=n;omega
 ·refine kD [(0,some 0),(1,some 1),(2,some 5)] ⟨⟨qt (uY ws a u),congrArg (fun z=>some (Mem.garr 53 1 z)) ?_,rfl,qu rfl _⟩,rfl,rfl,trivial⟩;show (((qt ws).map (k6.rens [2,1] 3)).set (a:Int).toNat [.win 1 1 ((u.1:Int)+0) ((u.2:Int) / 2 - 0)])++[[.win 1 1 ((u.1:Int)+(u.2:Int) / 2) ((u.2:Int) - (u.2:Int) / 2)]]=_;rw [jN];unfold qt uY;rw [List.map_append,List.map_set,Int.toNat_natCast];have e1:(u.1:Int)+0=(u.1:Int):=oM;have e2:(u.2:Int) / 2 - 0=((u.2 / 2:Nat):Int):=oM
  have e3:(u.1:Int)+(u.2:Int) / 2=((u.1+u.2 / 2:Nat):Int):=oM;have e4:(u.2:Int) - (u.2:Int) / 2=((u.2 - u.2 / 2:Nat):Int):=oM;rw [e1,e2,e3,e4];rfl
end Go.Gs
