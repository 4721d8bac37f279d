/- The disc of a stroke, the program's. -/
import Derived.Test.YtjgadnaphffpkaaGreatDoorNA
import Derived.Test.YtjgadnaphffpkaaGreatDoorNAL
import Derived.Test.YtjgadnaphffpkaaGreatDoorNAK
import Derived.Test.YtjgadnaphffpkaaGreatDoorNAI
set_option maxRecDepth 100000
set_option maxHeartbeats 8000000
set_option linter.all false
namespace Go.Gs
open Go.Proofs
section
theorem zrS(p:Pt)(w:Int):CG0 356 [.agg (ptE p),i64 w] [] (.sl ptE (vI p w)) []:=by
 refine zc Tryz.func356 ?_
 have bad:¬(ku w/\zn p)->LE (.val (.slice none 0 0)) (.sl ptE (vI p w)):=λh=>by
  unfold vI;rw[if_pos h];exact zD
 refine zb.t (vS w)<|⟨λa1=>bad (λh=>a1 h.1),λa1=>?_⟩;refine zb.t (qh p)<|⟨λa2=>bad (λh=>a2 h.2),λa2=>?_⟩;have h:ku w/\zn p:=⟨Xa.1 a1,Xa.1 a2⟩;refine zb.t zCo<|⟨Nat,λi=>⟨[(17,i64 (i:Int)),(16,.agg (zax 4 0)),(5,.own 1),(2,.loc 0 0),(1,i64 w)],[(1,.arr 35 ptE 2 ((zw.take i).map (qO p w))),(0,.box 35 (ptE p))],2,39,0⟩,λi=>i<=16,λi=>16 - i,0,?_,?_,?_⟩
 ·exact Xe _
 ·exact zE [(0,some 0),(1,none)]
 rintro i hi
 match i,hi with
 | 0,_=>
  have hb:=j7 (zw.getD 0 zp) dC;have t1:=z5 hb.1 h.1;have t2:=z5 hb.2 h.1;refine Br.y<|Dr.d<|Ar.fit (show -9223372036854775808<=(zw.getD 0 zp).x*w/\(zw.getD 0 zp).x*w<=9223372036854775807 by omega)<|zb.t (zN ((zw.getD 0 zp).x*w) 32768 ⟨oM,oM⟩ ⟨dC,dC⟩) ?_;rw[t1.2.2];refine Ar.fit (show -9223372036854775808<=(zw.getD 0 zp).y*w/\(zw.getD 0 zp).y*w<=9223372036854775807 by omega)<|zb.t (zN ((zw.getD 0 zp).y*w) 32768 ⟨oM,oM⟩ ⟨dC,dC⟩) ?_;rw[t2.2.2]
  refine zb.t (yg p ⟨zM ((zw.getD 0 zp).x*w) 32768,zM ((zw.getD 0 zp).y*w) 32768⟩ h.2.p45.s ⟨by dsimp only;omega,by dsimp only;omega⟩)<|⟨Pt,ptE,[qO p w (zw.getD 0 zp)],rfl,Ob.o0 ?_⟩;refine⟨[qO p w (zw.getD 0 zp)],rfl,Ob.mk ⟨by show((0:Nat)+((1:Nat):Int))*16<=_;decide,by show 0+1<=_;decide,dC,λ_ _=>rfl⟩ ?_⟩;exact Ob.mk (by kernel_rfl)<|Ar.fit dC<|⟨1,dC,zf [0,4],dC⟩
 | 1,_=>
  have hb:=j7 (zw.getD 1 zp) dC;have t1:=z5 hb.1 h.1;have t2:=z5 hb.2 h.1;refine Br.y<|Dr.d<|Ar.fit (show -9223372036854775808<=(zw.getD 1 zp).x*w/\(zw.getD 1 zp).x*w<=9223372036854775807 by omega)<|zb.t (zN ((zw.getD 1 zp).x*w) 32768 ⟨oM,oM⟩ ⟨dC,dC⟩) ?_;rw[t1.2.2];refine Ar.fit (show -9223372036854775808<=(zw.getD 1 zp).y*w/\(zw.getD 1 zp).y*w<=9223372036854775807 by omega)<|zb.t (zN ((zw.getD 1 zp).y*w) 32768 ⟨oM,oM⟩ ⟨dC,dC⟩) ?_;rw[t2.2.2]
  refine zb.t (yg p ⟨zM ((zw.getD 1 zp).x*w) 32768,zM ((zw.getD 1 zp).y*w) 32768⟩ h.2.p45.s ⟨by dsimp only;omega,by dsimp only;omega⟩)<|⟨Pt,ptE,[qO p w (zw.getD 1 zp)],rfl,Ob.o0 ?_⟩;refine⟨[qO p w (zw.getD 1 zp)],rfl,Ob.mk ⟨by show((1:Nat)+((1:Nat):Int))*16<=_;decide,by show 1+1<=_;decide,dC,λ_ _=>rfl⟩ ?_⟩;exact Ob.mk (by kernel_rfl)<|Ar.fit dC<|⟨2,dC,zf [0,4],dC⟩
 | 2,_=>
  have hb:=j7 (zw.getD 2 zp) dC;have t1:=z5 hb.1 h.1;have t2:=z5 hb.2 h.1;refine Br.y<|Dr.d<|Ar.fit (show -9223372036854775808<=(zw.getD 2 zp).x*w/\(zw.getD 2 zp).x*w<=9223372036854775807 by omega)<|zb.t (zN ((zw.getD 2 zp).x*w) 32768 ⟨oM,oM⟩ ⟨dC,dC⟩) ?_;rw[t1.2.2];refine Ar.fit (show -9223372036854775808<=(zw.getD 2 zp).y*w/\(zw.getD 2 zp).y*w<=9223372036854775807 by omega)<|zb.t (zN ((zw.getD 2 zp).y*w) 32768 ⟨oM,oM⟩ ⟨dC,dC⟩) ?_;rw[t2.2.2]
  refine zb.t (yg p ⟨zM ((zw.getD 2 zp).x*w) 32768,zM ((zw.getD 2 zp).y*w) 32768⟩ h.2.p45.s ⟨by dsimp only;omega,by dsimp only;omega⟩)<|⟨Pt,ptE,[qO p w (zw.getD 2 zp)],rfl,Ob.o0 ?_⟩;refine⟨[qO p w (zw.getD 2 zp)],rfl,Ob.o7 ?_⟩;exact Ob.mk (by kernel_rfl)<|Ar.fit dC<|⟨3,dC,zf [0,4],dC⟩
 | 3,_=>
  have hb:=j7 (zw.getD 3 zp) dC;have t1:=z5 hb.1 h.1;have t2:=z5 hb.2 h.1;refine Br.y<|Dr.d<|Ar.fit (show -9223372036854775808<=(zw.getD 3 zp).x*w/\(zw.getD 3 zp).x*w<=9223372036854775807 by omega)<|zb.t (zN ((zw.getD 3 zp).x*w) 32768 ⟨oM,oM⟩ ⟨dC,dC⟩) ?_;rw[t1.2.2];refine Ar.fit (show -9223372036854775808<=(zw.getD 3 zp).y*w/\(zw.getD 3 zp).y*w<=9223372036854775807 by omega)<|zb.t (zN ((zw.getD 3 zp).y*w) 32768 ⟨oM,oM⟩ ⟨dC,dC⟩) ?_;rw[t2.2.2]
  refine zb.t (yg p ⟨zM ((zw.getD 3 zp).x*w) 32768,zM ((zw.getD 3 zp).y*w) 32768⟩ h.2.p45.s ⟨by dsimp only;omega,by dsimp only;omega⟩)<|⟨Pt,ptE,[qO p w (zw.getD 3 zp)],rfl,Ob.o0 ?_⟩;refine⟨[qO p w (zw.getD 3 zp)],rfl,Ob.o14 ?_⟩;exact Ob.mk (by kernel_rfl)<|Ar.fit dC<|⟨4,dC,zf [0,4],dC⟩
 | 4,_=>
  have hb:=j7 (zw.getD 4 zp) dC;have t1:=z5 hb.1 h.1;have t2:=z5 hb.2 h.1;refine Br.y<|Dr.d<|Ar.fit (show -9223372036854775808<=(zw.getD 4 zp).x*w/\(zw.getD 4 zp).x*w<=9223372036854775807 by omega)<|zb.t (zN ((zw.getD 4 zp).x*w) 32768 ⟨oM,oM⟩ ⟨dC,dC⟩) ?_;rw[t1.2.2];refine Ar.fit (show -9223372036854775808<=(zw.getD 4 zp).y*w/\(zw.getD 4 zp).y*w<=9223372036854775807 by omega)<|zb.t (zN ((zw.getD 4 zp).y*w) 32768 ⟨oM,oM⟩ ⟨dC,dC⟩) ?_;rw[t2.2.2]
  refine zb.t (yg p ⟨zM ((zw.getD 4 zp).x*w) 32768,zM ((zw.getD 4 zp).y*w) 32768⟩ h.2.p45.s ⟨by dsimp only;omega,by dsimp only;omega⟩)<|⟨Pt,ptE,[qO p w (zw.getD 4 zp)],rfl,Ob.o0 ?_⟩;refine⟨[qO p w (zw.getD 4 zp)],rfl,Ob.mk ⟨by show((4:Nat)+((1:Nat):Int))*16<=_;decide,by show 4+1<=_;decide,dC,λ_ _=>rfl⟩ ?_⟩;exact Ob.mk (by kernel_rfl)<|Ar.fit dC<|⟨5,dC,zf [0,4],dC⟩
 | 5,_=>
  have hb:=j7 (zw.getD 5 zp) dC;have t1:=z5 hb.1 h.1;have t2:=z5 hb.2 h.1;refine Br.y<|Dr.d<|Ar.fit (show -9223372036854775808<=(zw.getD 5 zp).x*w/\(zw.getD 5 zp).x*w<=9223372036854775807 by omega)<|zb.t (zN ((zw.getD 5 zp).x*w) 32768 ⟨oM,oM⟩ ⟨dC,dC⟩) ?_;rw[t1.2.2];refine Ar.fit (show -9223372036854775808<=(zw.getD 5 zp).y*w/\(zw.getD 5 zp).y*w<=9223372036854775807 by omega)<|zb.t (zN ((zw.getD 5 zp).y*w) 32768 ⟨oM,oM⟩ ⟨dC,dC⟩) ?_;rw[t2.2.2]
  refine zb.t (yg p ⟨zM ((zw.getD 5 zp).x*w) 32768,zM ((zw.getD 5 zp).y*w) 32768⟩ h.2.p45.s ⟨by dsimp only;omega,by dsimp only;omega⟩)<|⟨Pt,ptE,[qO p w (zw.getD 5 zp)],rfl,Ob.o0 ?_⟩;refine⟨[qO p w (zw.getD 5 zp)],rfl,Ob.mk ⟨by show((5:Nat)+((1:Nat):Int))*16<=_;decide,by show 5+1<=_;decide,dC,λ_ _=>rfl⟩ ?_⟩;exact Ob.mk (by kernel_rfl)<|Ar.fit dC<|⟨6,dC,zf [0,4],dC⟩
 | 6,_=>
  have hb:=j7 (zw.getD 6 zp) dC;have t1:=z5 hb.1 h.1;have t2:=z5 hb.2 h.1;refine Br.y<|Dr.d<|Ar.fit (show -9223372036854775808<=(zw.getD 6 zp).x*w/\(zw.getD 6 zp).x*w<=9223372036854775807 by omega)<|zb.t (zN ((zw.getD 6 zp).x*w) 32768 ⟨oM,oM⟩ ⟨dC,dC⟩) ?_;rw[t1.2.2];refine Ar.fit (show -9223372036854775808<=(zw.getD 6 zp).y*w/\(zw.getD 6 zp).y*w<=9223372036854775807 by omega)<|zb.t (zN ((zw.getD 6 zp).y*w) 32768 ⟨oM,oM⟩ ⟨dC,dC⟩) ?_;rw[t2.2.2]
  refine zb.t (yg p ⟨zM ((zw.getD 6 zp).x*w) 32768,zM ((zw.getD 6 zp).y*w) 32768⟩ h.2.p45.s ⟨by dsimp only;omega,by dsimp only;omega⟩)<|⟨Pt,ptE,[qO p w (zw.getD 6 zp)],rfl,Ob.o0 ?_⟩;refine⟨[qO p w (zw.getD 6 zp)],rfl,Ob.mk ⟨by show((6:Nat)+((1:Nat):Int))*16<=_;decide,by show 6+1<=_;decide,dC,λ_ _=>rfl⟩ ?_⟩;exact Ob.mk (by kernel_rfl)<|Ar.fit dC<|⟨7,dC,zf [0,4],dC⟩
 | 7,_=>
  have hb:=j7 (zw.getD 7 zp) dC;have t1:=z5 hb.1 h.1;have t2:=z5 hb.2 h.1;refine Br.y<|Dr.d<|Ar.fit (show -9223372036854775808<=(zw.getD 7 zp).x*w/\(zw.getD 7 zp).x*w<=9223372036854775807 by omega)<|zb.t (zN ((zw.getD 7 zp).x*w) 32768 ⟨oM,oM⟩ ⟨dC,dC⟩) ?_;rw[t1.2.2];refine Ar.fit (show -9223372036854775808<=(zw.getD 7 zp).y*w/\(zw.getD 7 zp).y*w<=9223372036854775807 by omega)<|zb.t (zN ((zw.getD 7 zp).y*w) 32768 ⟨oM,oM⟩ ⟨dC,dC⟩) ?_;rw[t2.2.2]
  refine zb.t (yg p ⟨zM ((zw.getD 7 zp).x*w) 32768,zM ((zw.getD 7 zp).y*w) 32768⟩ h.2.p45.s ⟨by dsimp only;omega,by dsimp only;omega⟩)<|⟨Pt,ptE,[qO p w (zw.getD 7 zp)],rfl,Ob.o0 ?_⟩;refine⟨[qO p w (zw.getD 7 zp)],rfl,Ob.mk ⟨by show((7:Nat)+((1:Nat):Int))*16<=_;decide,by show 7+1<=_;decide,dC,λ_ _=>rfl⟩ ?_⟩;exact Ob.mk (by kernel_rfl)<|Ar.fit dC<|⟨8,dC,zf [0,4],dC⟩
 | 8,_=>
  have hb:=j7 (zw.getD 8 zp) dC;have t1:=z5 hb.1 h.1;have t2:=z5 hb.2 h.1;refine Br.y<|Dr.d<|Ar.fit (show -9223372036854775808<=(zw.getD 8 zp).x*w/\(zw.getD 8 zp).x*w<=9223372036854775807 by omega)<|zb.t (zN ((zw.getD 8 zp).x*w) 32768 ⟨oM,oM⟩ ⟨dC,dC⟩) ?_;rw[t1.2.2];refine Ar.fit (show -9223372036854775808<=(zw.getD 8 zp).y*w/\(zw.getD 8 zp).y*w<=9223372036854775807 by omega)<|zb.t (zN ((zw.getD 8 zp).y*w) 32768 ⟨oM,oM⟩ ⟨dC,dC⟩) ?_;rw[t2.2.2]
  refine zb.t (yg p ⟨zM ((zw.getD 8 zp).x*w) 32768,zM ((zw.getD 8 zp).y*w) 32768⟩ h.2.p45.s ⟨by dsimp only;omega,by dsimp only;omega⟩)<|⟨Pt,ptE,[qO p w (zw.getD 8 zp)],rfl,Ob.o0 ?_⟩;refine⟨[qO p w (zw.getD 8 zp)],rfl,Ob.mk ⟨by show((8:Nat)+((1:Nat):Int))*16<=_;decide,by show 8+1<=_;decide,dC,λ_ _=>rfl⟩ ?_⟩;exact Ob.mk (by kernel_rfl)<|Ar.fit dC<|⟨9,dC,zf [0,4],dC⟩
 | 9,_=>
  have hb:=j7 (zw.getD 9 zp) dC;have t1:=z5 hb.1 h.1;have t2:=z5 hb.2 h.1;refine Br.y<|Dr.d<|Ar.fit (show -9223372036854775808<=(zw.getD 9 zp).x*w/\(zw.getD 9 zp).x*w<=9223372036854775807 by omega)<|zb.t (zN ((zw.getD 9 zp).x*w) 32768 ⟨oM,oM⟩ ⟨dC,dC⟩) ?_;rw[t1.2.2];refine Ar.fit (show -9223372036854775808<=(zw.getD 9 zp).y*w/\(zw.getD 9 zp).y*w<=9223372036854775807 by omega)<|zb.t (zN ((zw.getD 9 zp).y*w) 32768 ⟨oM,oM⟩ ⟨dC,dC⟩) ?_;rw[t2.2.2]
  refine zb.t (yg p ⟨zM ((zw.getD 9 zp).x*w) 32768,zM ((zw.getD 9 zp).y*w) 32768⟩ h.2.p45.s ⟨by dsimp only;omega,by dsimp only;omega⟩)<|⟨Pt,ptE,[qO p w (zw.getD 9 zp)],rfl,Ob.o0 ?_⟩;refine⟨[qO p w (zw.getD 9 zp)],rfl,Ob.mk ⟨by show((9:Nat)+((1:Nat):Int))*16<=_;decide,by show 9+1<=_;decide,dC,λ_ _=>rfl⟩ ?_⟩;exact Ob.mk (by kernel_rfl)<|Ar.fit dC<|⟨10,dC,zf [0,4],dC⟩
 | 10,_=>
  have hb:=j7 (zw.getD 10 zp) dC;have t1:=z5 hb.1 h.1;have t2:=z5 hb.2 h.1;refine Br.y<|Dr.d<|Ar.fit (show -9223372036854775808<=(zw.getD 10 zp).x*w/\(zw.getD 10 zp).x*w<=9223372036854775807 by omega)<|zb.t (zN ((zw.getD 10 zp).x*w) 32768 ⟨oM,oM⟩ ⟨dC,dC⟩) ?_;rw[t1.2.2];refine Ar.fit (show -9223372036854775808<=(zw.getD 10 zp).y*w/\(zw.getD 10 zp).y*w<=9223372036854775807 by omega)<|zb.t (zN ((zw.getD 10 zp).y*w) 32768 ⟨oM,oM⟩ ⟨dC,dC⟩) ?_;rw[t2.2.2]
  refine zb.t (yg p ⟨zM ((zw.getD 10 zp).x*w) 32768,zM ((zw.getD 10 zp).y*w) 32768⟩ h.2.p45.s ⟨by dsimp only;omega,by dsimp only;omega⟩)<|⟨Pt,ptE,[qO p w (zw.getD 10 zp)],rfl,Ob.o0 ?_⟩;refine⟨[qO p w (zw.getD 10 zp)],rfl,Ob.mk ⟨by show((10:Nat)+((1:Nat):Int))*16<=_;decide,by show 10+1<=_;decide,dC,λ_ _=>rfl⟩ ?_⟩;exact Ob.mk (by kernel_rfl)<|Ar.fit dC<|⟨11,dC,zf [0,4],dC⟩
 | 11,_=>
  have hb:=j7 (zw.getD 11 zp) dC;have t1:=z5 hb.1 h.1;have t2:=z5 hb.2 h.1;refine Br.y<|Dr.d<|Ar.fit (show -9223372036854775808<=(zw.getD 11 zp).x*w/\(zw.getD 11 zp).x*w<=9223372036854775807 by omega)<|zb.t (zN ((zw.getD 11 zp).x*w) 32768 ⟨oM,oM⟩ ⟨dC,dC⟩) ?_;rw[t1.2.2];refine Ar.fit (show -9223372036854775808<=(zw.getD 11 zp).y*w/\(zw.getD 11 zp).y*w<=9223372036854775807 by omega)<|zb.t (zN ((zw.getD 11 zp).y*w) 32768 ⟨oM,oM⟩ ⟨dC,dC⟩) ?_;rw[t2.2.2]
  refine zb.t (yg p ⟨zM ((zw.getD 11 zp).x*w) 32768,zM ((zw.getD 11 zp).y*w) 32768⟩ h.2.p45.s ⟨by dsimp only;omega,by dsimp only;omega⟩)<|⟨Pt,ptE,[qO p w (zw.getD 11 zp)],rfl,Ob.o0 ?_⟩;refine⟨[qO p w (zw.getD 11 zp)],rfl,Ob.mk ⟨by show((11:Nat)+((1:Nat):Int))*16<=_;decide,by show 11+1<=_;decide,dC,λ_ _=>rfl⟩ ?_⟩;exact Ob.mk (by kernel_rfl)<|Ar.fit dC<|⟨12,dC,zf [0,4],dC⟩
 | 12,_=>
  have hb:=j7 (zw.getD 12 zp) dC;have t1:=z5 hb.1 h.1;have t2:=z5 hb.2 h.1;refine Br.y<|Dr.d<|Ar.fit (show -9223372036854775808<=(zw.getD 12 zp).x*w/\(zw.getD 12 zp).x*w<=9223372036854775807 by omega)<|zb.t (zN ((zw.getD 12 zp).x*w) 32768 ⟨oM,oM⟩ ⟨dC,dC⟩) ?_;rw[t1.2.2];refine Ar.fit (show -9223372036854775808<=(zw.getD 12 zp).y*w/\(zw.getD 12 zp).y*w<=9223372036854775807 by omega)<|zb.t (zN ((zw.getD 12 zp).y*w) 32768 ⟨oM,oM⟩ ⟨dC,dC⟩) ?_;rw[t2.2.2]
  refine zb.t (yg p ⟨zM ((zw.getD 12 zp).x*w) 32768,zM ((zw.getD 12 zp).y*w) 32768⟩ h.2.p45.s ⟨by dsimp only;omega,by dsimp only;omega⟩)<|⟨Pt,ptE,[qO p w (zw.getD 12 zp)],rfl,Ob.o0 ?_⟩;refine⟨[qO p w (zw.getD 12 zp)],rfl,Ob.mk ⟨by show((12:Nat)+((1:Nat):Int))*16<=_;decide,by show 12+1<=_;decide,dC,λ_ _=>rfl⟩ ?_⟩;exact Ob.mk (by kernel_rfl)<|Ar.fit dC<|⟨13,dC,zf [0,4],dC⟩
 | 13,_=>
  have hb:=j7 (zw.getD 13 zp) dC;have t1:=z5 hb.1 h.1;have t2:=z5 hb.2 h.1;refine Br.y<|Dr.d<|Ar.fit (show -9223372036854775808<=(zw.getD 13 zp).x*w/\(zw.getD 13 zp).x*w<=9223372036854775807 by omega)<|zb.t (zN ((zw.getD 13 zp).x*w) 32768 ⟨oM,oM⟩ ⟨dC,dC⟩) ?_;rw[t1.2.2];refine Ar.fit (show -9223372036854775808<=(zw.getD 13 zp).y*w/\(zw.getD 13 zp).y*w<=9223372036854775807 by omega)<|zb.t (zN ((zw.getD 13 zp).y*w) 32768 ⟨oM,oM⟩ ⟨dC,dC⟩) ?_;rw[t2.2.2]
  refine zb.t (yg p ⟨zM ((zw.getD 13 zp).x*w) 32768,zM ((zw.getD 13 zp).y*w) 32768⟩ h.2.p45.s ⟨by dsimp only;omega,by dsimp only;omega⟩)<|⟨Pt,ptE,[qO p w (zw.getD 13 zp)],rfl,Ob.o0 ?_⟩;refine⟨[qO p w (zw.getD 13 zp)],rfl,Ob.mk ⟨by show((13:Nat)+((1:Nat):Int))*16<=_;decide,by show 13+1<=_;decide,dC,λ_ _=>rfl⟩ ?_⟩;exact Ob.mk (by kernel_rfl)<|Ar.fit dC<|⟨14,dC,zf [0,4],dC⟩
 | 14,_=>
  have hb:=j7 (zw.getD 14 zp) dC;have t1:=z5 hb.1 h.1;have t2:=z5 hb.2 h.1;refine Br.y<|Dr.d<|Ar.fit (show -9223372036854775808<=(zw.getD 14 zp).x*w/\(zw.getD 14 zp).x*w<=9223372036854775807 by omega)<|zb.t (zN ((zw.getD 14 zp).x*w) 32768 ⟨oM,oM⟩ ⟨dC,dC⟩) ?_;rw[t1.2.2];refine Ar.fit (show -9223372036854775808<=(zw.getD 14 zp).y*w/\(zw.getD 14 zp).y*w<=9223372036854775807 by omega)<|zb.t (zN ((zw.getD 14 zp).y*w) 32768 ⟨oM,oM⟩ ⟨dC,dC⟩) ?_;rw[t2.2.2]
  refine zb.t (yg p ⟨zM ((zw.getD 14 zp).x*w) 32768,zM ((zw.getD 14 zp).y*w) 32768⟩ h.2.p45.s ⟨by dsimp only;omega,by dsimp only;omega⟩)<|⟨Pt,ptE,[qO p w (zw.getD 14 zp)],rfl,Ob.o0 ?_⟩;refine⟨[qO p w (zw.getD 14 zp)],rfl,Ob.mk ⟨by show((14:Nat)+((1:Nat):Int))*16<=_;decide,by show 14+1<=_;decide,dC,λ_ _=>rfl⟩ ?_⟩;exact Ob.mk (by kernel_rfl)<|Ar.fit dC<|⟨15,dC,zf [0,4],dC⟩
 | 15,_=>
  have hb:=j7 (zw.getD 15 zp) dC;have t1:=z5 hb.1 h.1;have t2:=z5 hb.2 h.1;refine Br.y<|Dr.d<|Ar.fit (show -9223372036854775808<=(zw.getD 15 zp).x*w/\(zw.getD 15 zp).x*w<=9223372036854775807 by omega)<|zb.t (zN ((zw.getD 15 zp).x*w) 32768 ⟨oM,oM⟩ ⟨dC,dC⟩) ?_;rw[t1.2.2];refine Ar.fit (show -9223372036854775808<=(zw.getD 15 zp).y*w/\(zw.getD 15 zp).y*w<=9223372036854775807 by omega)<|zb.t (zN ((zw.getD 15 zp).y*w) 32768 ⟨oM,oM⟩ ⟨dC,dC⟩) ?_;rw[t2.2.2]
  refine zb.t (yg p ⟨zM ((zw.getD 15 zp).x*w) 32768,zM ((zw.getD 15 zp).y*w) 32768⟩ h.2.p45.s ⟨by dsimp only;omega,by dsimp only;omega⟩)<|⟨Pt,ptE,[qO p w (zw.getD 15 zp)],rfl,Ob.o0 ?_⟩;refine⟨[qO p w (zw.getD 15 zp)],rfl,Ob.mk ⟨by show((15:Nat)+((1:Nat):Int))*16<=_;decide,by show 15+1<=_;decide,dC,λ_ _=>rfl⟩ ?_⟩;exact Ob.mk (by kernel_rfl)<|Ar.fit dC<|⟨16,dC,zf [0,4],dC⟩
 | 16,_=>
  refine⟨λh=>absurd h dC,λ_=>?_⟩;refine zb.see 1 _ (zbc (zw.map (qO p w)) (by show((16:Nat):Int)<=_;decide)) rfl rfl rfl<|z9 (show kJ (zw.map (qO p w))=vI p w from ?_);unfold vI;rw[if_neg (λk=>k h)];rfl
 | _+17,hi=>exact absurd hi oM
theorem zex(p q:Pt)(hp:S50 p.x/\S50 p.y)(hq:S50 q.x/\S50 q.y):CG0 363 [.agg (ptE p),.agg (ptE q)] [] (.agg (ptE (zz p q))) []:=by
 refine zc Tryz.func363 ?_;(iterate 2 refine Ar.o ?_);exact .refl
theorem znL(r:List Pt):CG0 361 [.sl ptE r] [] (.sl zh (kS r)) []:=by
 refine zc Tryz.func361 ?_;intro hl1;refine⟨λh=>?_,λh=>?_⟩
 ·have e:kS r=[]:=by unfold kS;rw[if_pos (Xn (by have h:(r.length:Int)=0:=h;omega))]
  rw[e];exact zD
 ·refine⟨List Pt,zh,[r],rfl,Ob.o0 ?_⟩;refine z9 (show[r]=kS r from ?_);unfold kS;rw[if_neg (λe=>h (by rw[e];rfl))]
theorem zxv(a b:Int)(ha:0<=a/\a < 18446744073709551616)(hb:0<=b/\b < 18446744073709551616):
  CG0 201 [u64 a,u64 b] [] (.tup [u64 (a*b / 18446744073709551616),u64 (a*b % 18446744073709551616)]) []:=by
 obtain⟨x,rfl⟩:=Q8 ha.1;obtain⟨y,rfl⟩:=Q8 hb.1;have c:=zsV x y oM oM;have e1:((x*y / 18446744073709551616:Nat):Int)=(x:Int)*y / 18446744073709551616:=by rw[J0,XZ];rfl
 have e2:((x*y % 18446744073709551616:Nat):Int)=(x:Int)*y % 18446744073709551616:=by rw[Jo,XZ];rfl
 rw[e1,e2]at c;exact c
variable{p:Pt}{q:Pt}
theorem zhs(hp:zn p)(hq:zn q):zka (zz p q):=by
 unfold zn at hp hq;show(-2097152<=p.x+q.x/\p.x+q.x<=2097152)/\(-2097152<=p.y+q.y/\p.y+q.y<=2097152);omega
theorem zkc(hp:zn p)(hq:zn q):addP p q=zz p q:=by
 unfold addP;rw[zb4 hp,zb4 hq]
def tipE(o:Pt×Bool):SV:=.tup [.agg (ptE o.1),pr (o.2=true)]
theorem uh{o:Pt×Bool}{n:Pt}{b:Bool}(h:o=(n,b)):LE (.tup [.agg (ptE n),bl b]) (tipE o):=by
 subst h;exact zI .refl zsO
theorem zb9{x w:Int}(hx: -2097152<=x/\x<=2097152)(hw:ku w):(-34359738368<=x*w/\x*w<=34359738368)/\(-562949953421312<=x*w*w/\x*w*w<=562949953421312)/\(1<=w*w/\w*w<=268435456):=by
 unfold ku at hw;have h1:=jA (A:=2097152) (B:=16384) (a:=x) (b:=w) oM oM;have h2:=jA (A:=34359738368) (B:=16384) (a:=x*w) (b:=w) oM oM;have h3:=jA (A:=16384) (B:=16384) (a:=w) (b:=w) oM oM;have h4:=Ja (show 0 < w by omega) (show 0 < w by omega);omega
theorem znM(x w q:Int)(hx: -2097152<=x/\x<=2097152)(hw:ku w)(hq:0<=q/\q<=8796093022208):CG0 392 [i64 x,.ptr [i64 w],.ptr [i64 q]] [] (i64 (zM (x*w*w) (2*q))) []:=by
 have h:=zb9 hx hw;refine zc Tryz.func392 ?_;(iterate 3 refine Ar.o ?_);exact zb.t (zN (x*w*w) (2*q) ⟨oM,oM⟩ ⟨oM,oM⟩)<|zj (uR oM)
theorem p_tip(n m:Pt)(w lim:Int):CG0 364 [.agg (ptE n),.agg (ptE m),i64 w,i64 lim] [] (tipE (u6 n m w lim)) []:=by
 refine zc Tryz.func364 ?_;have bad:¬(zn n/\zn m/\ku w/\256<=lim/\lim<=65536)->u6 n m w lim=(zp,false):=λh=>by unfold u6;rw[if_pos h]
 refine zb.t (qh n)<|⟨λa1=>uh (bad (λh=>a1 h.1)),λa1=>?_⟩;refine zb.t (qh m)<|⟨λa2=>uh (bad (λh=>a2 h.2.1)),λa2=>?_⟩;refine zb.t (ztm w)<|⟨λa3=>uh (bad (λh=>a3 h.2.2.1)),λa3=>?_⟩;refine⟨λa4=>uh (bad (λh=>by have a4:lim < 256:=a4;omega)),λa4=>?_⟩;refine⟨λa5=>uh (bad (λh=>by have a5:65536 < lim:=a5;omega)),λa5=>?_⟩;have hn:=Xa.1 a1;have hm:=Xa.1 a2;have hw:=Xa.1 a3
 have hl:256<=lim/\lim<=65536:=⟨by have a4:¬lim < 256:=a4;omega,by have a5:¬65536 < lim:=a5;omega⟩;have hs:=zhs hn hm
 have e:u6 n m w lim=if (zz n m).x*(zz n m).x+(zz n m).y*(zz n m).y=0∨lim*lim*((zz n m).x*(zz n m).x+(zz n m).y*(zz n m).y) < 256*w*(256*w) then(zp,false)
   else(⟨zM ((zz n m).x*w*w) (2*((zz n m).x*(zz n m).x+(zz n m).y*(zz n m).y)),zM ((zz n m).y*w*w) (2*((zz n m).x*(zz n m).x+(zz n m).y*(zz n m).y))⟩,true):=by
  unfold u6;rw[if_neg (λk=>k ⟨hn,hm,hw,hl⟩)]
 refine zb.t (zex n m hn.p45.s hm.p45.s) ?_;generalize zz n m=s at*;have s1:=jA (A:=2097152) (B:=2097152) (a:=s.x) (b:=s.x) hs.1 hs.1;have s2:=jA (A:=2097152) (B:=2097152) (a:=s.y) (b:=s.y) hs.2 hs.2;have p1:=jn s.x;have p2:=jn s.y;have l1:=jA (A:=65536) (B:=65536) (a:=lim) (b:=lim) oM oM;have l2:=jn lim;have t:=zb9 hs.1 hw;have w0:=hw;unfold ku at w0;(iterate 6 refine Ar.o ?_);have hq:0<=s.x*s.x+s.y*s.y/\s.x*s.x+s.y*s.y<=8796093022208:=oM
 refine zb.t (zxv (lim*lim) (s.x*s.x+s.y*s.y) oM oM)<|⟨λb1=>?_,λb1=>?_⟩
 ·have b1:s.x*s.x+s.y*s.y=0:=b1;exact uh (e.trans (if_pos (.inl b1)))
 have b1:¬s.x*s.x+s.y*s.y=0:=b1;have hww:256*w*256*w=256*w*(256*w):=by grind
 have hP:0<=lim*lim*(s.x*s.x+s.y*s.y):=XH oM oM
 have go:¬lim*lim*(s.x*s.x+s.y*s.y) < 256*w*(256*w)->u6 n m w lim=(⟨zM (s.x*w*w) (2*(s.x*s.x+s.y*s.y)),zM (s.y*w*w) (2*(s.x*s.x+s.y*s.y))⟩,true):=λh=>
  e.trans (if_neg (λk=>k.elim b1 h))
 have w3:256*w*256*w=65536*(w*w):=by grind
 refine⟨λb2=>?_,λb2=>?_⟩
 ·have b2:lim*lim*(s.x*s.x+s.y*s.y) / 18446744073709551616=0:=b2;(iterate 4 refine Ar.o ?_);refine⟨λb3=>?_,λb3=>?_⟩
  ·have b3:lim*lim*(s.x*s.x+s.y*s.y) % 18446744073709551616 < 256*w*256*w:=b3;exact uh (e.trans (if_pos (.inr (by generalize lim*lim*(s.x*s.x+s.y*s.y)=P at*;omega))))
  ·have b3:¬lim*lim*(s.x*s.x+s.y*s.y) % 18446744073709551616 < 256*w*256*w:=b3;exact Dr.k<|zb.t (znM s.x w (s.x*s.x+s.y*s.y) hs.1 hw hq)<|zb.t (znM s.y w (s.x*s.x+s.y*s.y) hs.2 hw hq)<|uh (go (by generalize lim*lim*(s.x*s.x+s.y*s.y)=P at*;omega))
 ·have b2:¬lim*lim*(s.x*s.x+s.y*s.y) / 18446744073709551616=0:=b2;exact Dr.k<|zb.t (znM s.x w (s.x*s.x+s.y*s.y) hs.1 hw hq)<|zb.t (znM s.y w (s.x*s.x+s.y*s.y) hs.2 hw hq)<|uh (go (by generalize lim*lim*(s.x*s.x+s.y*s.y)=P at*;omega))
theorem r_tip(n m:Pt)(w lim:Int):CG0 372 [.agg (ptE n),.agg (ptE m),i64 w,i64 lim] [] (tipE (u6 n m w lim)) []:=by
 refine zc Tryz.func372 ?_;have bad:¬(zn n/\zn m/\ku w/\256<=lim/\lim<=65536)->u6 n m w lim=(zp,false):=λh=>by unfold u6;rw[if_pos h]
 refine zb.t (kK n)<|⟨λa1=>uh (bad (λh=>a1 h.1)),λa1=>?_⟩;refine zb.t (kK m)<|⟨λa2=>uh (bad (λh=>a2 h.2.1)),λa2=>?_⟩;refine zb.t (ztn w)<|⟨λa3=>uh (bad (λh=>a3 h.2.2.1)),λa3=>?_⟩;refine⟨λa4=>uh (bad (λh=>by have a4:lim < 256:=a4;omega)),λa4=>?_⟩;refine⟨λa5=>uh (bad (λh=>by have a5:65536 < lim:=a5;omega)),λa5=>?_⟩;have hn:=Xa.1 a1;have hm:=Xa.1 a2;have hw:=Xa.1 a3
 have hl:256<=lim/\lim<=65536:=⟨by have a4:¬lim < 256:=a4;omega,by have a5:¬65536 < lim:=a5;omega⟩;have hs:=zhs hn hm
 have e:u6 n m w lim=if (zz n m).x*(zz n m).x+(zz n m).y*(zz n m).y=0∨lim*lim*((zz n m).x*(zz n m).x+(zz n m).y*(zz n m).y) < 256*w*(256*w) then(zp,false)
   else(⟨zM ((zz n m).x*w*w) (2*((zz n m).x*(zz n m).x+(zz n m).y*(zz n m).y)),zM ((zz n m).y*w*w) (2*((zz n m).x*(zz n m).x+(zz n m).y*(zz n m).y))⟩,true):=by
  unfold u6;rw[if_neg (λk=>k ⟨hn,hm,hw,hl⟩)]
 have ca:=zxg n m;rw[zkc hn hm]at ca;refine zb.t ca ?_;generalize zz n m=s at*;have s1:=jA (A:=2097152) (B:=2097152) (a:=s.x) (b:=s.x) hs.1 hs.1;have s2:=jA (A:=2097152) (B:=2097152) (a:=s.y) (b:=s.y) hs.2 hs.2;have p1:=jn s.x;have p2:=jn s.y;have l1:=jA (A:=65536) (B:=65536) (a:=lim) (b:=lim) oM oM;have l2:=jn lim;have t:=zb9 hs.1 hw;have t':=zb9 hs.2 hw;have w0:=hw;unfold ku at w0;(iterate 3 refine Ar.o ?_);have hq:0<=s.x*s.x+s.y*s.y/\s.x*s.x+s.y*s.y<=8796093022208:=oM;refine Ar.o ?_
 refine⟨λb1=>?_,λb1=>?_⟩
 ·have b1:s.x*s.x+s.y*s.y=0:=b1;exact uh (e.trans (if_pos (.inl b1)))
 have b1:¬s.x*s.x+s.y*s.y=0:=b1;have w3:256*w*(256*w)=65536*(w*w):=by grind
 have hs':=hs;unfold zka at hs';have z1:=qT (n:=256*w*(256*w)) ⟨oM,oM⟩;have z2:=qT (n:=lim*lim) ⟨oM,oM⟩;have z3:=qT (n:=s.x*s.x+s.y*s.y) ⟨oM,oM⟩;have z4:=kO (lim*lim) (s.x*s.x+s.y*s.y);unfold js at z1 z2 z3 z4;refine Ar.o<|zb.t (jT (256*w*(256*w)) ⟨oM,oM⟩)<|Ar.o<|zb.t (jT (lim*lim) ⟨oM,oM⟩)<|zb.t (jT (s.x*s.x+s.y*s.y) ⟨oM,oM⟩)<|zb.t (zcC (ofZ (lim*lim)) (ofZ (s.x*s.x+s.y*s.y)) (by rw[jX];omega) (by rw[jX];omega)) ?_;rw[zW,zW]
 refine zb.t (zw7 (ofZ (256*w*(256*w))) (ofZ (lim*lim*(s.x*s.x+s.y*s.y))) (by rw[jX];omega) (by rw[jX];omega)) ?_;rw[zW,zW]
 have hsg:0 < (256*w*(256*w) - lim*lim*(s.x*s.x+s.y*s.y)).sign↔lim*lim*(s.x*s.x+s.y*s.y) < 256*w*(256*w):=by
  rw[Int.sign_pos_iff];omega
 refine⟨λb2=>?_,λb2=>?_⟩
 ·exact uh (e.trans (if_pos (.inr (hsg.1 b2))))
 have go:u6 n m w lim=(⟨y8 (zM (s.x*(w*w)) (2*(s.x*s.x+s.y*s.y))),y8 (zM (s.y*(w*w)) (2*(s.x*s.x+s.y*s.y)))⟩,true):=by
  rw[← JV,← JV,uR oM,uR oM];exact e.trans (if_neg (λk=>k.elim b1 (λh=>b2 (hsg.2 h))))
 (iterate 2 refine Ar.o ?_);refine zb.t (zhe s.x (w*w) (2*(s.x*s.x+s.y*s.y)) ⟨oM,oM⟩ ⟨oM,oM⟩ ⟨oM,oM⟩) ?_;(iterate 2 refine Ar.o ?_);exact zb.t (zhe s.y (w*w) (2*(s.x*s.x+s.y*s.y)) ⟨oM,oM⟩ ⟨oM,oM⟩ ⟨oM,oM⟩)<|uh go
variable{α:Type}
theorem kQ{p:Prop}[Decidable p](h:p){a b:α}:(if ¬p then a else b)=b:=if_neg (λk=>k h)
theorem qR{n:Int}(h:n=0){a b:α}:(if n≠0 then a else b)=b:=if_neg (λk=>k h)
def yI(q:List Pt)(x:Pt):List Pt:=if q.getLast?=some x then q else q++[x]
def kC(q more:List Pt):List Pt:=more.foldl yI q
def kR(p:Pt)(s:Sg)(tol:Int):List Pt×Int:=if s.v=3 then zc3 p s.a s.b tol else if s.v=4 then zc4 p s.a s.b s.c tol else([s.a],0)
def qV(l:List Pt):Pt:=l.getLastD zp
def zbd(p:Pl)(s:Sg)(tol:Int):Pl×Int:=
 if s.v=5 then(⟨qm p.pts,true⟩,0)
 else if (kR (qV p.pts) s tol).2≠0 then(p,(kR (qV p.pts) s tol).2)
 else(⟨kC p.pts (kR (qV p.pts) s tol).1,p.cl⟩,0)
def uj(tol:Int)(st:List Pl×Int)(s:Sg):List Pl×Int:=
 if st.2≠0 then([],st.2)
 else if s.v=1 then(st.1++[⟨[s.a],false⟩],0)
 else if (zbd (st.1.getLastD ⟨[],false⟩) s tol).2≠0 then([],(zbd (st.1.getLastD ⟨[],false⟩) s tol).2)
 else(st.1.dropLast++[(zbd (st.1.getLastD ⟨[],false⟩) s tol).1],0)
variable{tol:Int}{S:List Pl}
theorem zgn{s:Sg}:uj tol (S,0) s=
  if s.v=1 then(S++[⟨[s.a],false⟩],0)
  else if (zbd (S.getLastD ⟨[],false⟩) s tol).2≠0 then([],(zbd (S.getLastD ⟨[],false⟩) s tol).2)
  else(S.dropLast++[(zbd (S.getLastD ⟨[],false⟩) s tol).1],0):=if_neg (λk:(0:Int)≠0=>k rfl)
def jq(l:List Sg)(tol:Int):List Pl×Int:=l.foldl (uj tol) ([],0)
def jt(l:List Pl):Nat:=(l.map λp=>p.pts.length).sum
def zeZ(tol:Int):Prop:=1<=tol/\tol<=256
instance (tol:Int):Decidable (zeZ tol):=inferInstanceAs (Decidable (_/\_))
def zV(l:List Sg)(tol:Int):List Pl×Int:=
 if ¬qU l then([],10) else if ¬zeZ tol then([],2) else if (jq l tol).2≠0 then([],(jq l tol).2)
 else if 4096 < jt (jq l tol).1 then([],5) else((jq l tol).1,0)
def inB(lo hi p:Pt):Prop:=(lo.x<=p.x/\p.x<=hi.x)/\(lo.y<=p.y/\p.y<=hi.y)
theorem zto{a b lo hi:Int}(hb:0 < b)(h1:lo*b<=a)(h2:a<=hi*b):lo<=zdJ a b/\zdJ a b<=hi:=by
 unfold zdJ;constructor
 ·rw[Int.le_ediv_iff_mul_le oM];have:lo*(2*b)=2*(lo*b):=by grind
  omega
 ·have h3:(2*a+b) / (2*b) < hi+1:=by
   rw[Int.ediv_lt_iff_lt_mul oM];have:(hi+1)*(2*b)=2*(hi*b)+2*b:=by grind
   omega
  omega
variable{i:Int}
theorem zBi{n a b c lo hi:Int}(hn:1<=n)(hi0:0<=i)(hin:i<=n)(ha:lo<=a/\a<=hi)(hb:lo<=b/\b<=hi)(hc:lo<=c/\c<=hi):lo<=q1 i n a b c/\q1 i n a b c<=hi:=by
 unfold q1;have w0:0<=(n - i)*(n - i):=XH oM oM;have w1:0<=2*i*(n - i):=XH oM oM;have w2:0<=i*i:=XH oM oM;have e:n*n=(n - i)*(n - i)+2*i*(n - i)+i*i:=by grind
 have g1:=XH w0 (show 0<=a - lo by omega);have g2:=XH w1 (show 0<=b - lo by omega);have g3:=XH w2 (show 0<=c - lo by omega);have g4:=XH w0 (show 0<=hi - a by omega);have g5:=XH w1 (show 0<=hi - b by omega);have g6:=XH w2 (show 0<=hi - c by omega);refine zto (Ja oM oM) ?_ ?_
 ·rw[e];grind
 ·rw[e];grind
theorem zBj{n a b c d lo hi:Int}(hn:1<=n)(hi0:0<=i)(hin:i<=n)(ha:lo<=a/\a<=hi)(hb:lo<=b/\b<=hi)(hc:lo<=c/\c<=hi)(hd:lo<=d/\d<=hi):
  lo<=c1 i n a b c d/\c1 i n a b c d<=hi:=by
 unfold c1;have w0:0<=(n - i)*(n - i)*(n - i):=XH (XH oM oM) oM;have w1:0<=3*i*(n - i)*(n - i):=XH (XH oM oM) oM;have w2:0<=3*i*i*(n - i):=XH (XH oM oM) oM;have w3:0<=i*i*i:=XH (XH oM oM) oM;have e:n*n*n=(n - i)*(n - i)*(n - i)+3*i*(n - i)*(n - i)+3*i*i*(n - i)+i*i*i:=by grind
 have g1:=XH w0 (show 0<=a - lo by omega);have g2:=XH w1 (show 0<=b - lo by omega);have g3:=XH w2 (show 0<=c - lo by omega);have g4:=XH w3 (show 0<=d - lo by omega);have k1:=XH w0 (show 0<=hi - a by omega);have k2:=XH w1 (show 0<=hi - b by omega);have k3:=XH w2 (show 0<=hi - c by omega);have k4:=XH w3 (show 0<=hi - d by omega);refine zto (Ja (Ja oM oM) oM) ?_ ?_
 ·rw[e];grind
 ·rw[e];grind
theorem zic(need tol:Int):∀(k n:Nat),1<=n->(yH need tol k n).2=0->1<=(yH need tol k n).1/\(yH need tol k n).1<=(n+k:Nat) - 1
 | 0,n,_,h=>by cases h
 | k+1,n,hn,h=>by
  unfold yH at h ⊢
  split
  ·exact⟨by dsimp only;omega,by dsimp only;omega⟩
  ·rename_i c;rw[if_neg c]at h;have:=zic need tol k (n+1) oM h;omega
variable{l:List Pt}
theorem yV{need:Int}(h:(k7 need tol l).2=0):(1<=(k7 need tol l).1/\(k7 need tol l).1<=64)/\zeZ tol/\(∀p∈l,zn p)/\k7 need tol l=yH need tol 64 1:=by
 unfold k7 at h ⊢
 by_cases h1:¬(1<=tol/\tol<=256)
 ·rw[if_pos h1]at h;exact absurd h dC
 rw[if_neg h1]at h ⊢
 by_cases h2:¬∀p∈l,zn p
 ·rw[if_pos h2]at h;exact absurd h dC
 rw[if_neg h2]at h ⊢;have:=zic need tol 64 1 dC h;exact⟨oM,Xa.1 h1,Xa.1 h2,rfl⟩
theorem zpM{f:Int->Pt}{n:Nat}(h:p∈zb7 f n):∃i:Nat,i < n/\p=f ((i:Int)+1):=by
 unfold zb7 at h;obtain⟨i,hi,rfl⟩:=XO.1 h;exact⟨i,Kj.1 hi,rfl⟩
variable{lo:Pt}{hi:Pt}{a:Pt}{b:Pt}{c:Pt}
theorem zuS{n:Int}(hn:1<=n/\n<=64)(hi':0<=i/\i<=n)(ho:∀p∈[a,b,c],zn p)(h:∀p∈[a,b,c],inB lo hi p):inB lo hi (yY a b c i n):=by
 unfold yY;rw[if_neg (λk=>k ⟨ho,hn.1,hn.2,hi'.1,hi'.2⟩)];have ha:=h a (by simp);have hb:=h b (by simp);have hc:=h c (by simp);exact⟨zBi hn.1 hi'.1 hi'.2 ha.1 hb.1 hc.1,zBi hn.1 hi'.1 hi'.2 ha.2 hb.2 hc.2⟩
theorem zuT{d:Pt}{n:Int}(hn:1<=n/\n<=64)(hi':0<=i/\i<=n)(ho:∀p∈[a,b,c,d],zn p)(h:∀p∈[a,b,c,d],inB lo hi p):inB lo hi (yZ a b c d i n):=by
 unfold yZ;rw[if_neg (λk=>k ⟨ho,hn.1,hn.2,hi'.1,hi'.2⟩)];have ha:=h a (by simp);have hb:=h b (by simp);have hc:=h c (by simp);have hd:=h d (by simp);exact⟨zBj hn.1 hi'.1 hi'.2 ha.1 hb.1 hc.1 hd.1,zBj hn.1 hi'.1 hi'.2 ha.2 hb.2 hc.2 hd.2⟩
theorem zxw(h0:(zc3 a b c tol).2=0)(h:∀p∈[a,b,c],inB lo hi p):∀p∈(zc3 a b c tol).1,inB lo hi p:=by
 unfold zc3 at h0 ⊢
 split
 ·intro p hp;cases hp
 rename_i h1;have h1:=Xa.1 h1;have ok:=yV h1;intro p hp;obtain⟨i,hi,rfl⟩:=zpM (show p∈zb7 (λi=>yY a b c i (yc a b c tol).1) (yc a b c tol).1.toNat from hp);unfold yc at hi ⊢;exact zuS (by unfold yc at*;omega) (by unfold yc at*;omega) ok.2.2.1 h
theorem zxx{d:Pt}(h0:(zc4 a b c d tol).2=0)(h:∀p∈[a,b,c,d],inB lo hi p):∀p∈(zc4 a b c d tol).1,inB lo hi p:=by
 unfold zc4 at h0 ⊢
 split
 ·intro p hp;cases hp
 rename_i h1;have h1:=Xa.1 h1;have ok:=yV h1;intro p hp;obtain⟨i,hi,rfl⟩:=zpM (show p∈zb7 (λi=>yZ a b c d i (yd a b c d tol).1) (yd a b c d tol).1.toNat from hp);unfold yd at hi ⊢;exact zuT (by unfold yd at*;omega) (by unfold yd at*;omega) ok.2.2.1 h
theorem zfo:∀{l:List Pt} {x:Pt},jI l->l.getLast?≠some x->jI (l++[x])
 | [],x,_,_=>⟨λ_ h=>(by cases h),trivial⟩
 | [p],x,_,h=>⟨λq hq e=>h (by cases hq;rw[e];rfl),⟨λ_ h=>(by cases h),trivial⟩⟩
 | p::q::r,x,h,hl=>⟨λz hz=>h.1 z hz,zfo (l:=q::r) h.2 (by rwa [J1]at hl)⟩
theorem zuU(h:jI l)(x:Pt):jI (yI l x):=by
 unfold yI
 split
 ·exact h
 ·rename_i k;exact zfo h k
theorem zfp:∀(more:List Pt) {l:List Pt},jI l->jI (kC l more)
 | [],_,h=>h
 | x::r,l,h=>zfp r (zuU h x)
theorem zkd:∀{l:List Pt},jI l->jI l.dropLast
 | [],_=>trivial
 | [p],_=>trivial
 | [p,q],h=>⟨λ_ h=>(by cases h),trivial⟩
 | p::q::r::s,h=>⟨λz hz=>h.1 z hz,zkd (l:=q::r::s) h.2⟩
theorem zbe(h:jI l):jI (qm l):=by
 unfold qm;split
 ·exact zkd h
 ·exact h
theorem zzR{x:Pt}(h:p∈yI l x):p∈l∨p=x:=by
 unfold yI at h
 split at h
 ·exact .inl h
 ·simpa using h
theorem zpN:∀(more:List Pt) {l:List Pt} {p:Pt},p∈kC l more->p∈l∨p∈more
 | [],_,_,h=>.inl h
 | x::r,l,p,h=>by
  rcases zpN r (l:=yI l x) h with h | h
  ·exact(zzR h).imp id λe=>by rw[e];exact .head _
  ·exact .inr (.tail _ h)
theorem zpO(h:p∈qm l):p∈l:=by
 unfold qm at h
 split at h
 ·exact List.dropLast_subset l h
 ·exact h
theorem zCp(x:Pt):yI l x≠[]:=by
 unfold yI;split
 ·rename_i h;intro e;rw[e]at h;cases h
 ·simp
theorem znN:∀(more:List Pt) {l:List Pt},l≠[]->kC l more≠[]
 | [],_,h=>h
 | x::r,l,_=>znN r (zCp x)
theorem zzS(h:l≠[]):qm l≠[]:=by
 unfold qm;split
 ·rename_i k;intro e;have:l.dropLast.length=0:=by rw[e];rfl
  rw[QL]at this;omega
 ·exact h
theorem zpP(l:List Pt)(x:Pt):(yI l x).getLast?=some x:=by
 unfold yI;split
 ·assumption
 ·simp
theorem zl6:∀(more:List Pt) (l:List Pt),more≠[]->(kC l more).getLast?=more.getLast?
 | [],_,h=>absurd rfl h
 | [x],l,_=>zpP l x
 | x::y::r,l,_=>by
  show(kC (yI l x) (y::r)).getLast?=_;rw[zl6 (y::r) _ (by simp),J1]
theorem zl7{l:List Pt}(h:jI l)(h1:1 < (qm l).length):(qm l).getLast?≠(qm l).head?:=by
 unfold qm at h1 ⊢
 split
 ·rename_i k;rw[if_pos k]at h1;rw[QL]at h1;intro e
  -- l=d++[z]
  obtain⟨d,z,rfl⟩:∃d z,l=d++[z]:=⟨l.dropLast,l.getLast (by intro h;rw[h]at k;simp at k),(Jy _).symm⟩;rw[Jr]at e;simp at h1;obtain⟨d',y,rfl⟩:∃d' y,d=d'++[y]:=⟨d.dropLast,d.getLast (by intro h;rw[h]at h1;simp at h1),(Jy _).symm⟩;have e1:(d'++[y]++[z]).head?=(d'++[y]).head?:=by cases d' <;> rfl
  rw[e1,← e]at k;have e2:=k.2;rw[Ju,Ju]at e2;have e3:z=y:=Xi e2;clear e e1 k h1 e2
  induction d' with
  | nil=>exact h.1 z rfl e3.symm
  | cons w d' ih=>exact ih h.2
 ·rename_i k;rw[if_neg k]at h1;intro e;exact k ⟨h1,e⟩
def InvP(lo hi:Pt)(S:List Pl)(last:Int):Prop:=
 (S=[]/\last=5∨∃cl p,S=cl++[p]/\(p.cl=true↔last=5))/\∀q∈S,q.pts≠[]/\jI q.pts/\∀z∈q.pts,inB lo hi z
theorem zuV(h:l≠[]):qV l∈l:=by
 unfold qV;rw[QW,List.getLast?_eq_some_getLast h];exact List.getLast_mem h
theorem zrT{s:Sg}(h:s.v=1∨s.v=2):kG s=[s.a]:=by
 unfold kG
 rcases h with h | h <;> rw[h] <;> rfl
theorem zCq{s:Sg}(h:s.v=3):kG s=[s.a,s.b]:=by unfold kG;rw[h];rfl
theorem zCr{s:Sg}(h:s.v=4):kG s=[s.a,s.b,s.c]:=by unfold kG;rw[h];rfl
theorem zCs{s:Sg}(he:0<=nm s.v)(h5:s.v≠5)(hp:inB lo hi p)(hs:∀q∈kG s,inB lo hi q)(h0:(kR p s tol).2=0):∀q∈(kR p s tol).1,inB lo hi q:=by
 unfold kR at h0 ⊢
 rcases zl0 he with h | h | h | h | h
 ·rw[if_neg oM,if_neg oM]at h0 ⊢;intro q hq;rw[zrT (.inl h)]at hs;exact hs q hq
 ·rw[if_neg oM,if_neg oM]at h0 ⊢;intro q hq;rw[zrT (.inr h)]at hs;exact hs q hq
 ·rw[if_pos h]at h0 ⊢;rw[zCq h]at hs
  exact zxw h0 λq hq=>by
   cases hq with
   | head=>exact hp
   | tail _ hq=>exact hs q hq
 ·rw[if_neg oM,if_pos h]at h0 ⊢;rw[zCr h]at hs
  exact zxx h0 λq hq=>by
   cases hq with
   | head=>exact hp
   | tail _ hq=>exact hs q hq
 ·exact absurd h h5
variable{last:Int}{x:Sg}
theorem zxy(h:InvP lo hi S last)(he:jV last x=0)(hx:∀p∈kG x,inB lo hi p)(h0:(uj tol (S,0) x).2=0):InvP lo hi (uj tol (S,0) x).1 x.v:=by
 obtain⟨e1,e2,e3⟩:=u9.1 he;rw[zgn]at h0 ⊢
 by_cases h1:x.v=1
 ·rw[if_pos h1]at h0 ⊢;refine⟨.inr ⟨S,_,rfl,⟨λk=>(by cases k),λk=>by omega⟩⟩,λq hq=>?_⟩
  rcases Xo.1 hq with hq | hq
  ·exact h.2 q hq
  ·have:=Xq.1 hq;subst this;refine⟨by simp,⟨λ_ h=>(by cases h),trivial⟩,λz hz=>?_⟩;have:=Xq.1 hz;subst this;exact hx _ (by rw[zrT (.inl h1)];exact .head _)
 rw[if_neg h1]at h0 ⊢;obtain⟨hl,hv⟩:=e2.resolve_left h1;obtain⟨cl,p,rfl,hc⟩:∃cl p,S=cl++[p]/\(p.cl=true↔last=5):=h.1.resolve_left (λk=>hl k.2);have eg:(cl++[p]).getLastD ⟨[],false⟩=p:=by simp
 rw[eg]at h0 ⊢
 by_cases h2:(zbd p x tol).2≠0
 ·rw[if_pos h2]at h0;exact absurd h0 h2
 rw[if_neg h2]at h0 ⊢;have h2:=Xa.1 h2;obtain⟨p1,p2,p3⟩:=h.2 p (by simp);rw[Jr]
 have hg:((zbd p x tol).1.cl=true↔x.v=5)/\(zbd p x tol).1.pts≠[]/\jI (zbd p x tol).1.pts/\∀z∈(zbd p x tol).1.pts,inB lo hi z:=by
  unfold zbd at h2 ⊢
  by_cases h5:x.v=5
  ·rw[if_pos h5];exact⟨⟨λ_=>h5,λ_=>rfl⟩,zzS p1,zbe p2,λz hz=>p3 z (zpO hz)⟩
  rw[if_neg h5]at h2 ⊢
  by_cases h3:(kR (qV p.pts) x tol).2≠0
  ·rw[if_pos h3]at h2;exact absurd h2 h3
  rw[if_neg h3]at h2 ⊢;have h3:=Xa.1 h3;refine⟨⟨λk=>absurd (hc.1 k) hl,λk=>absurd k h5⟩,znN _ p1,zfp _ p2,λz hz=>?_⟩
  rcases zpN _ hz with hz | hz
  ·exact p3 z hz
  ·exact zCs e1 h5 (p3 _ (zuV p1)) hx h3 z hz
 refine⟨.inr ⟨cl,_,rfl,hg.1⟩,λq hq=>?_⟩
 rcases Xo.1 hq with hq | hq
 ·exact h.2 q (Qn _ hq)
 ·have:=Xq.1 hq;subst this;exact hg.2
def zpQ(last:Int)(l:List Sg)(i:Nat):Int:=if i=0 then last else(l[i - 1]?.map Sg.v).getD 0
theorem zke{l:List Sg}{i:Nat}(h:l[i]? =some x):zpQ last l (i+1)=x.v:=by
 unfold zpQ;rw[if_neg oM,show i+1 - 1=i by omega,h];rfl
theorem zrU:∀{l:List Sg} {last:Int} {i:Nat} {x:Sg},oks last l->l[i]? =some x->jV (zpQ last l i) x=0
 | [],_,i,_,_,h=>by simp at h
 | s::r,last,0,x,h,hx=>by cases hx;exact h.1
 | s::r,last,i+1,x,h,hx=>by
  have hx:r[i]? =some x:=hx;have:=zrU h.2 hx
  cases i with
  | zero=>exact this
  | succ i=>exact this
theorem vT{l:List Sg}{tol:Int}{i:Nat}{x:Sg}(h:l[i]? =some x):jq (l.take (i+1)) tol=uj tol (jq (l.take i) tol) x:=by
 unfold jq;rw[Xm,h];simp[KC]
theorem zpR{tol:Int}:∀(r:List Sg) {st:List Pl×Int},st.2≠0->r.foldl (uj tol) ([],st.2)=([],st.2)
 | [],_,_=>rfl
 | x::r,st,h=>by
  rw[Kw];have:uj tol ([],st.2) x=([],st.2):=by unfold uj;rw[if_pos h]
  rw[this];exact zpR r (st:=st) h
theorem zxz{st:List Pl×Int}(h:(uj tol st x).2≠0):uj tol st x=([],(uj tol st x).2):=by
 unfold uj at h ⊢
 split
 ·rfl
 ·rename_i h0;rw[if_neg h0]at h
  split
  ·rename_i h1;rw[if_pos h1]at h;exact absurd rfl h
  ·rename_i h1;rw[if_neg h1]at h
   split
   ·rfl
   ·rename_i h2;rw[if_neg h2]at h;exact absurd rfl h
theorem zl8{l:List Sg}{i:Nat}(hx:l[i]? =some x)(h:(jq (l.take (i+1)) tol).2≠0):jq l tol=([],(jq (l.take (i+1)) tol).2):=by
 have e:jq l tol=(l.drop (i+1)).foldl (uj tol) (jq (l.take (i+1)) tol):=by
  unfold jq;rw[← KC,Ki]
 rw[e];rw[vT hx]at h ⊢;rw[zxz h];exact zpR _ (st:=uj tol (jq (l.take i) tol) x) h
theorem zkf{lo hi:Pt}{l:List Sg}{tol:Int}(hv:oks 5 l)(hb:∀p∈qj l,inB lo hi p):∀i,i<=l.length->(jq (l.take i) tol).2=0->InvP lo hi (jq (l.take i) tol).1 (zpQ 5 l i)
 | 0,_,_=>⟨.inl ⟨rfl,rfl⟩,λq hq=>(by cases hq)⟩
 | i+1,hi',h=>by
  have hx:l[i]? =some l[i]:=Xb oM;rw[vT hx]at h ⊢
  by_cases h0:(jq (l.take i) tol).2=0
  ·have ih:=zkf hv hb i oM h0;rw[zke hx];have e:jq (l.take i) tol=((jq (l.take i) tol).1,0):=by rw[← h0]
   rw[e]at h ⊢;exact zxy ih (zrU hv hx) (λp hp=>hb p (Qy.2 ⟨_,KO _,hp⟩)) h
  ·unfold uj at h;rw[if_pos h0]at h;exact absurd h h0
def qG(d:List Int)(i:Nat):Int:=256*(d.take i).sum
def qL(d:List Int):Int:=256*d.sum
def qW:List Int->Int->Nat->Nat×Int
 | [],_,_=>(0,0)
 | e::r,k,i=>if k < 256*e then(i,256*e - k) else qW r (k - 256*e) (i+1)
def phD(pen:Pen)(t:Int):Int:=(t % qL pen.d+(256*pen.ph) % qL pen.d) % qL pen.d
def onD(pen:Pen)(t:Nat):Prop:=(qW pen.d (phD pen t) 0).1 % 2=0
instance (pen:Pen) (t:Nat):Decidable (onD pen t):=inferInstanceAs (Decidable (_=_))
theorem yO(d:List Int):qG d d.length=qL d:=by unfold qG qL;rw[X9]
theorem yB{d:List Int}{i:Nat}{e:Int}(h:d[i]? =some e):qG d (i+1)=qG d i+256*e:=by
 unfold qG;rw[Xm,h];simp[Q9]
theorem ux(d:List Int):qG d 0=0:=rfl
theorem zkg:∀{d:List Int},(∀n∈d,0<=n)->0<=d.sum
 | [],_=>dC
 | e::r,h=>by
  rw[Q2];have:=h e (.head _);have:=zkg (d:=r) λn hn=>h n (.tail _ hn)
  omega
theorem zxA:∀{d:List Int},(∀n∈d,n<=1048576)->d.sum<=1048576*(d.length:Int)
 | [],_=>dC
 | e::r,h=>by
  rw[Q2,Xl];have:=h e (.head _);have:=zxA (d:=r) λn hn=>h n (.tail _ hn)
  omega
theorem zht{d:List Int}(h:∀n∈d,0<=n){i j:Nat}(hij:i<=j):qG d i<=qG d j:=by
 unfold qG
 have e:d.take j=d.take i++(d.take j).drop i:=by
  have:=(Ki i (d.take j)).symm
  rwa [Yr,KW hij]at this
 rw[e,JA];have:=zkg (d:=(d.take j).drop i) λn hn=>h n (XE (Kq hn))
 omega
theorem zey:∀{d:List Int} {i i0:Nat} {k e:Int},(∀n∈d,0<=n)->d[i]? =some e->qG d i<=k->k < qG d i+256*e->qW d k i0=(i0+i,qG d i+256*e - k)
 | [],i,_,_,_,_,h,_,_=>by simp at h
 | a::r,0,i0,k,e,hn,h,h1,h2=>by
  cases h
  rw[ux] at*;unfold qW;rw[if_pos oM];simp
 | a::r,i+1,i0,k,e,hn,h,h1,h2=>by
  have h:r[i]? =some e:=h;have e1:qG (a::r) (i+1)=256*a+qG r i:=by unfold qG;rw[Kk,Q2,Q9]
  have hm:=zht (d:=r) (λn hn'=>hn n (.tail _ hn')) (Xe i);rw[ux]at hm;rw[e1]at h1 h2 ⊢;unfold qW;rw[if_neg oM,zey (λn hn'=>hn n (.tail _ hn')) h oM oM];exact Prod.ext (by dsimp only;omega) (by dsimp only;omega)
theorem znO:∀{d:List Int} {k:Int},(∀n∈d,0<=n)->0<=k->k < qL d->∃i e,d[i]? =some e/\qG d i<=k/\k < qG d i+256*e
 | [],k,_,h0,h=>by unfold qL at h;simp at h;omega
 | a::r,k,hn,h0,h=>by
  by_cases c:k < 256*a
  ·exact⟨0,a,rfl,h0,by rw[ux];omega⟩
  ·have e1:qL (a::r)=256*a+qL r:=by unfold qL;rw[Q2,Q9]
   obtain⟨i,e,g1,g2,g3⟩:=znO (d:=r) (k:=k - 256*a) (λn hn'=>hn n (.tail _ hn')) oM oM;have e2:qG (a::r) (i+1)=256*a+qG r i:=by unfold qG;rw[Kk,Q2,Q9]
   exact⟨i+1,e,g1,oM,oM⟩
def z8(on:Nat->Prop)[DecidablePred on]:Nat->List (Nat×Nat)×Option Nat
 | 0=>([],none)
 | t+1=>if on t then((z8 on t).1,some ((z8 on t).2.getD t)) else((z8 on t).1++((z8 on t).2.map λf=>(f,t)).toList,none)
def kg(on:Nat->Prop)[DecidablePred on](t:Nat):List (Nat×Nat):=(z8 on t).1++((z8 on t).2.map λf=>(f,t)).toList
end
section
variable {on:Nat->Prop} [DecidablePred on]
theorem vl(t:Nat):z8 on (t+1)=if on t then((z8 on t).1,some ((z8 on t).2.getD t)) else((z8 on t).1++((z8 on t).2.map λf=>(f,t)).toList,none):=rfl
theorem zxB{a b:Nat}(hab:a < b)(h:∀t,a<=t->t < b->on t):z8 on b=((z8 on a).1,some ((z8 on a).2.getD a)):=by
 obtain⟨k,rfl⟩:∃k,b=a+1+k:=⟨b - a - 1,oM⟩
 induction k with
 | zero=>rw[show a+1+0=a+1 from rfl,vl,if_pos (h a (Xh _) oM)]
 | succ k ih=>
  rw[show a+1+(k+1)=(a+1+k)+1 from rfl,vl,if_pos (h _ oM oM),ih oM λt h1 h2=>h t h1 oM];rfl
theorem ztp{a b:Nat}(hab:a < b)(h:∀t,a<=t->t < b->¬on t):z8 on b=(kg on a,none):=by
 obtain⟨k,rfl⟩:∃k,b=a+1+k:=⟨b - a - 1,oM⟩
 induction k with
 | zero=>rw[show a+1+0=a+1 from rfl,vl,if_neg (h a (Xh _) oM)];rfl
 | succ k ih=>
  rw[show a+1+(k+1)=(a+1+k)+1 from rfl,vl,if_neg (h _ oM oM),ih oM λt h1 h2=>h t h1 oM];exact Prod.ext (Xy _) rfl
theorem zpS{a:Nat}:∀k,∃r,(z8 on (a+k)).1=(z8 on a).1++r
 | 0=>⟨[],by simp⟩
 | k+1=>by
  obtain⟨r,hr⟩:=zpS (a:=a) k;rw[show a+(k+1)=(a+k)+1 from rfl,vl]
  split
  ·exact⟨r,hr⟩
  ·exact⟨r++_,by rw[← XK,← hr]⟩
theorem zxC{a b:Nat}(hab:a<=b):∃r,kg on b=(z8 on a).1++r:=by
 obtain⟨k,rfl⟩:∃k,b=a+k:=⟨b - a,oM⟩;obtain⟨r,hr⟩:=zpS (on:=on) (a:=a) k;exact⟨r++_,by unfold kg;rw[hr,XK]⟩
theorem zca:∀t,(∀q∈(z8 on t).1,q.1 < q.2/\q.2 < t)/\∀f,(z8 on t).2=some f->f < t
 | 0=>⟨λq hq=>(by cases hq),λf h=>(by cases h)⟩
 | t+1=>by
  have ih:=zca t;rw[vl]
  split
  ·refine⟨λq hq=>⟨(ih.1 q hq).1,by have:=(ih.1 q hq).2;omega⟩,λf hf=>?_⟩;have hf:=Xi hf
   cases ho:(z8 on t).2 with
   | none=>rw[ho]at hf;simp at hf;omega
   | some f'=>rw[ho]at hf;simp at hf;have:=ih.2 f' ho;omega
  ·refine⟨λq hq=>?_,λf hf=>by cases hf⟩
   rcases Xo.1 hq with hq | hq
   ·exact⟨(ih.1 q hq).1,by have:=(ih.1 q hq).2;omega⟩
   ·cases ho:(z8 on t).2 with
    | none=>rw[ho]at hq;cases hq
    | some f'=>
     rw[ho]at hq;have:=Xq.1 hq;subst this;exact⟨ih.2 f' ho,by dsimp only;omega⟩
theorem zkh{t:Nat}:∀q∈kg on t,q.1 < q.2/\q.2<=t:=λq hq=>by
 have h:=zca (on:=on) t
 rcases Xo.1 hq with hq | hq
 ·exact⟨(h.1 q hq).1,by have:=(h.1 q hq).2;omega⟩
 ·cases ho:(z8 on t).2 with
  | none=>rw[ho]at hq;cases hq
  | some f'=>
   rw[ho]at hq;have:=Xq.1 hq;subst this;exact⟨h.2 f' ho,Xh _⟩
theorem zl9:∀t f,(z8 on t).2=some f->∀q∈(z8 on t).1,q.2 < f
 | 0,f,h=>by cases h
 | t+1,f,h=>by
  rw[vl]at h ⊢
  split at h
  ·rename_i c;rw[if_pos c];have h:=Xi h;intro q hq
   cases ho:(z8 on t).2 with
   | none=>rw[ho]at h;have:=((zca (on:=on) t).1 q hq).2;simp at h;omega
   | some f'=>rw[ho]at h;simp at h;subst h;exact zl9 t f' ho q hq
  ·cases h
theorem zzT{t:Nat}{q:Nat×Nat}(hq:q∈kg on t)(h1:q.1=0)(h2:q.2=t):kg on t=[q]:=by
 rcases Xo.1 hq with hm | hm
 ·have:=((zca (on:=on) t).1 q hm).2;omega
 ·unfold kg
  cases ho:(z8 on t).2 with
  | none=>rw[ho]at hm;cases hm
  | some f=>
   rw[ho]at hm;have e:=Xq.1 hm
   have e0:(z8 on t).1=[]:=by
    cases hc:(z8 on t).1 with
    | nil=>rfl
    | cons a r=>
     have h3:=zl9 t f ho a (by rw[hc];exact .head _);rw[e]at h1;have h1:f=0:=h1;omega
   rw[e0,e];rfl
end
section
def drawn(d:List Int):Int:=256*((List.range d.length).map λi=>if i % 2=0 then d.getD i 0 else 0).sum
def kU(pen:Pen)(long:Int):List (Nat×Nat):=
 if ¬kI pen∨long < 1∨(0 < qL pen.d/\drawn pen.d=0) then[]
 else if qL pen.d=drawn pen.d then[(0,long.toNat)] else kg (onD pen) long.toNat
def zP(a b:Pt):Int:=zpx (zcE b a)
def ze(p:Pl):List Pt:=if p.cl=true/\2<=(zu p).pts.length then(zu p).pts++[nth (zu p).pts 0] else(zu p).pts
def atS(c:List Pt):Nat->Int
 | 0=>0
 | i+1=>atS c i+zP (nth c i) (nth c (i+1))
def zK(p:Pl):Int:=atS (ze p) ((ze p).length - 1)
def zki(c:List Pt)(x:Int):Nat->Nat
 | 0=>0
 | i+1=>if x < atS c (i+1) then zki c x i else i+1
def zda(c:List Pt)(x:Int):Pt:=
 let i:=zki c x (c.length - 2)
 qQ (nth c i) (nth c (i+1)) (x - atS c i) (atS c (i+1) - atS c i)
def ze0(c:List Pt)(f t:Int)(n:Nat):List Pt:=((List.range n).filter λi=>decide (f < atS c i/\atS c i < t)).map (nth c)
def vo(c:List Pt)(f t:Int):List Pt:=kC [] ([zda c f]++ze0 c f t (c.length - 1)++[zda c t])
def ye(p:Pl)(q:Nat×Nat):Pl:=if p.cl=true/\q.1=0/\(q.2:Int)=zK p then zu p else⟨vo (ze p) q.1 q.2,false⟩
def jB(p:Pl)(pen:Pen):List Pl×Int:=
 if ¬kI pen then([],13) else if ¬∀q∈p.pts,zn q then([],6) else if 4096 < p.pts.length then([],5)
 else if pen.d=[] then([zu p],0)
 else if 4096 < jt ((kU pen (zK p)).map (ye p)) then([],5) else((kU pen (zK p)).map (ye p),0)
def goP(t:AF)(p:Pt):Pt:=⟨(y5 t (p.x:Rat) (p.y:Rat)+Rat.divInt 1 2).floor,(y6 t (p.x:Rat) (p.y:Rat)+Rat.divInt 1 2).floor⟩
def kv(t:AF)(p:Pt):Pt×Int:=if ¬t.ok then(zp,5) else if ¬zn p then(zp,6) else if zn (goP t p) then(goP t p,0) else(zp,6)
theorem zcL(t:AF)(p:Pt)(ht:t.le 100000):CG0 46 [.agg (afE t),.agg (ptE p)] [] (.tup [.agg (ptE (kv t p).1),i64 (kv t p).2]) []:=by
 obtain⟨ha,hb,hc,hd,he,hf⟩:=ht;refine zc Tryz.func46 ?_;have fin:∀(q:Pt) (n:Int),(kv t p)=(q,n)->LE (.tup [.agg (ptE q),i64 n]) (.tup [.agg (ptE (kv t p).1),i64 (kv t p).2]):=λq n h=>by rw[h];exact .refl
 refine zb.t (zcD t ⟨oM,oM,oM,oM,oM,oM⟩)<|⟨λh1=>?_,λh1=>?_⟩
 ·exact fin zp 5 (by rw[kv,if_pos h1])
 refine zb.t (qh p)<|⟨λh2=>?_,λh2=>?_⟩
 ·exact fin zp 6 (by rw[kv,if_neg h1,if_pos h2])
 have hp:zn p:=XL h2;have hx:R64 p.x:=by unfold R64;unfold zn at hp;omega
 have hy:R64 p.y:=by unfold R64;unfold zn at hp;omega
 have lx:=zdG p.x;have ly:=zdG p.y;have zx:=qT hx;have zy:=qT hy;refine Dr.k<|zb.t (yy p.x hx)<|zb.t (yy p.y hy)<|zb.t (ziI t (ofQ (p.x:Rat)) (ofQ (p.y:Rat)) ⟨oM,oM,oM,oM,oM,oM⟩ (by rw[zB];omega) (by rw[zB];omega)) ?_;rw[z6,z6];have lX:=qk t.a (ofQ (p.x:Rat)) t.c (ofQ (p.y:Rat)) t.e (n:=100000) ha (by rw[zB];omega) hc (by rw[zB];omega) he;have lY:=qk t.b (ofQ (p.x:Rat)) t.d (ofQ (p.y:Rat)) t.f (n:=100000) hb (by rw[zB];omega) hd (by rw[zB];omega) hf;rw[z6,z6]at lX lY
 have lh:ya (Rat.divInt 1 2)<=1:=by decide +kernel
 have mX:=za9 (y5 t p.x p.y) (Rat.divInt 1 2);have mY:=za9 (y6 t p.x p.y) (Rat.divInt 1 2);have lX2:ya (y5 t p.x p.y)<=500007:=lX.2;have lY2:ya (y6 t p.x p.y)<=500007:=lY.2
 have fl:∀q:Rat,js q.floor<=ya q:=λq=>XB (zbY (by
  rw[JZ]
  exact QU _ _)) (qb q)
 have fX:=fl (y5 t p.x p.y+Rat.divInt 1 2);have fY:=fl (y6 t p.x p.y+Rat.divInt 1 2);refine zb.t (zrF 1 2 dC dC dC)<|zb.t (zpq (ofQ (y5 t p.x p.y)) (ofQ (Rat.divInt 1 2)) (by rw[zB];omega) (by rw[zB];omega)) ?_;rw[z6,z6];refine zb.t (zs2 (ofQ (y5 t p.x p.y+Rat.divInt 1 2)) (by rw[zB];omega)) ?_;rw[z6];refine zb.t (zs0 (ofZ (y5 t p.x p.y+Rat.divInt 1 2).floor) (by rw[zT];omega))<|zb.t (zpq (ofQ (y6 t p.x p.y)) (ofQ (Rat.divInt 1 2)) (by rw[zB];omega) (by rw[zB];omega)) ?_;rw[z6,z6]
 refine zb.t (zs2 (ofQ (y6 t p.x p.y+Rat.divInt 1 2)) (by rw[zB];omega)) ?_;rw[z6];refine zb.t (zs0 (ofZ (y6 t p.x p.y+Rat.divInt 1 2).floor) (by rw[zT];omega)) ?_;rw[zW,zW];obtain⟨X,hX⟩:∃X,(y5 t p.x p.y+Rat.divInt 1 2).floor=X:=⟨_,rfl⟩;obtain⟨Y,hY⟩:∃Y,(y6 t p.x p.y+Rat.divInt 1 2).floor=Y:=⟨_,rfl⟩;have hg:goP t p=⟨X,Y⟩:=by unfold goP;rw[hX,hY]
 rw[hX,hY];have out:¬zn ⟨X,Y⟩->kv t p=(zp,6):=λh=>by rw[kv,if_neg h1,if_neg h2,if_neg (by rw[hg];exact h)]
 have inn:zn ⟨X,Y⟩->kv t p=(⟨X,Y⟩,0):=λh=>by rw[kv,if_neg h1,if_neg h2,if_pos (by rw[hg];exact h),hg]
 have big:zn ⟨X,Y⟩->(-9223372036854775808<=X/\X<=9223372036854775807)/\(-9223372036854775808<=Y/\Y<=9223372036854775807):=λh=>by unfold zn at h;dsimp only at h;omega
 refine⟨λh3=>?_,λh3=>?_⟩
 ·refine⟨λh4=>?_,λh4=>?_⟩
  ·refine zb.t (qh ⟨y8 X,y8 Y⟩) ?_;rw[y8,if_pos h3,y8,if_pos h4];refine⟨λh5=>?_,λh5=>?_⟩
   ·exact fin ⟨X,Y⟩ 0 (inn h5)
   ·exact fin zp 6 (out h5)
  ·exact fin zp 6 (out λh=>h4 (big h).2)
 ·exact fin zp 6 (out λh=>h3 (big h).1)
def jb(t:AF):List Pt->Int
 | []=>0
 | p::r=>if (kv t p).2≠0 then(kv t p).2 else jb t r
def vU(t:AF)(s:Sg):Sg:=zj2 s.v ((kG s).map λp=>(kv t p).1)
def trans(t:AF)(l:List Sg):List Sg×Int:=
 if ¬qU l then([],10) else if jb t (qj l)≠0 then([],jb t (qj l)) else(l.map (vU t),0)
theorem jJ(t:AF):∀q r:List Pt,jb t (q++r)=if jb t q≠0 then jb t q else jb t r
 | [],r=>by simp[jb]
 | p::q,r=>by
  rw[QN,jb,jb,jJ t q r]
  by_cases h:(kv t p).2=0
  ·simp[h]
  ·simp[h]
variable{q:List Pt}{p:Pt}
theorem vz{t:AF}{k:Nat}(h0:jb t (q.take k)=0)(hp:q[k]? =some p):
  ((kv t p).2=0->jb t (q.take (k+1))=0)/\((kv t p).2≠0->jb t q=(kv t p).2):=by
 have e:q.take (k+1)=q.take k++[p]:=by rw[Xm,hp];rfl
 have e1:jb t (q.take (k+1))=(kv t p).2:=by
  rw[e,jJ,h0]
  by_cases h:(kv t p).2=0 <;> simp[jb,h]
 refine⟨λh=>by rw[e1,h],λh=>?_⟩;have:=jJ t (q.take (k+1)) (q.drop (k+1));rw[Ki,e1,if_pos h]at this;exact this
theorem zxD(s:Sg):(kG s).length<=3:=by
 unfold kG;have:=zdM s.v;simp only[Xk,Xl,Xs];omega
theorem zzU(l:List Sg)(t:AF)(ht:t.le 100000)(hlen:l.length<=300):CG0 106 [.sl sgE l,.agg (afE t)] [] (.tup [.sl sgE (trans t l).1,i64 (trans t l).2]) []:=by
 refine zc Tryz.func106 ?_
 have bad:∀e:Int,trans t l=([],e)->LE (.tup [.val (.slice none 0 0),i64 e]) (.tup [.sl sgE (trans t l).1,i64 (trans t l).2]):=λe h=>by
  rw[h];exact zI zD .refl
 refine zb.t (ziJ l)<|⟨λh1=>?_,λh1=>?_⟩
 ·exact bad 10 (by rw[trans,if_pos h1])
 intro hl
 refine⟨Nat×Option (List Sg),λq=>match q with
   | (i,none)=>⟨[(19,i64 i),(18,i64 l.length),(17,.sl sgE l),(6,.val (.slice none 0 0)),(3,.loc 0 0)],[(0,.box 45 (afE t))],1,53,0⟩
   | (i,some out)=>⟨[(19,i64 i),(18,i64 l.length),(17,.sl sgE l),(6,.own 1),(3,.loc 0 0)],[(1,.arr 124 sgE 7 out),(0,.box 45 (afE t))],2,53,0⟩,
  λq=>match q with
   | (i,none)=>i=0
   | (i,some out)=>i<=l.length/\out=(l.take i).map (vU t)/\jb t (qj (l.take i))=0,λq=>l.length - q.1,(0,none),rfl,?_,?_⟩
 ·exact zf [0]
 have errs:∀(i:Nat) (x:Sg) (p:Pt) (k:Nat),jb t (qj (l.take i))=0->l[i]? =some x->jb t ((kG x).take k)=0->(kG x)[k]? =some p->(kv t p).2≠0->trans t l=([],(kv t p).2):=by
  intro i x p k h0 hx hk hp he;have e2:=(vz hk hp).2 he
  have e3:jb t (qj l)=(kv t p).2:=by
   have hd:=zgg hx
   have:qj l=qj (l.take i)++(kG x++qj (l.drop (i+1))):=by
    conv=>lhs;rw[← Ki i l,hd]
    simp[qj]
   rw[this,jJ,h0];simp only[ne_eq,not_true_eq_false,if_false];rw[jJ,e2,if_pos he]
  rw[trans,if_neg h1,e3,if_pos he]
 have fin0:∀i x,jb t (qj (l.take i))=0->l[i]? =some x->jb t (kG x)=0->jb t (qj (l.take (i+1)))=0:=λi x h0 hx hk=>by
  rw[zh7 hx,jJ,h0];simpa using hk
 rintro⟨i,_ | out⟩ hI
 ·have hI:i=0:=hI;subst hI;have hi0:jb t (qj (l.take 0))=0:=rfl;have hil:0<=l.length:=Xe _;refine⟨λh2=>?_,λh2=>?_⟩
  ·refine Ob.o ?_;intro x hx;have hx:l[0]? =some x:=hx;refine zb.t (zpB x) ?_;intro hl4
   refine⟨Nat×Option (List Pt),λq=>match q with
     | (k,none)=>⟨[(26,i64 k),(25,i64 (kG x).length),(24,.sl ptE (kG x)),(9,.val (.slice none 0 0)),(8,.loc 1 0),(19,i64 (0:Nat)),(18,i64 l.length),(17,.sl sgE l),(6,.val (.slice none 0 0)),(3,.loc 0 0)],[(1,.box 124 (sgE x)),(0,.box 45 (afE t))],2,53,0⟩
     | (k,some to)=>⟨[(26,i64 k),(25,i64 (kG x).length),(24,.sl ptE (kG x)),(9,.own 2),(8,.loc 1 0),(19,i64 (0:Nat)),(18,i64 l.length),(17,.sl sgE l),(6,.val (.slice none 0 0)),(3,.loc 0 0)],[(2,.arr 35 ptE 2 to),(1,.box 124 (sgE x)),(0,.box 45 (afE t))],3,53,0⟩,
    λq=>match q with
     | (k,none)=>k=0
     | (k,some to)=>k<=(kG x).length/\to=((kG x).take k).map (λp=>(kv t p).1)/\jb t ((kG x).take k)=0,λq=>(kG x).length - q.1,(0,none),rfl,?_,?_⟩
   ·exact zf [0,1]
   have hx3:=zxD x
   rintro⟨k,_ | to⟩ hK
   ·have hK:k=0:=hK;subst hK;have hk0:jb t ((kG x).take 0)=0:=rfl;have hkl:0<=(kG x).length:=Xe _;refine⟨λh4=>?_,λh4=>?_⟩
    ·refine Ob.o ?_;intro p hp;have hp:(kG x)[0]? =some p:=hp;refine zb.t (zcL t p ht)<|⟨λh5=>?_,λh5=>?_⟩
     ·exact bad _ (errs 0 x p 0 hi0 hx hk0 hp h5)
     have h5:(kv t p).2=0:=XL h5;have hk1:=(vz hk0 hp).1 h5;refine⟨Pt,ptE,[(kv t p).1],rfl,Ob.o0 ?_⟩;refine⟨_,_,_,rfl,Ob.o19 ?_⟩;refine Ar.fit dC ?_;refine⟨(1,some [(kv t p).1]),⟨oM,(by rw[Xm,hp];rfl),hk1⟩,zf [0,1,5],by dsimp only;omega⟩
    ·have hp0:kG x=[]:=XJ.1 oM;have hgo:zj2 x.v []=vU t x:=by rw[vU,hp0];rfl
     have hall:=fin0 0 x hi0 hx (by rw[hp0];rfl);refine zb.t ((znI x.v []).args (.cons .refl (.cons zD .nil))) ?_;rw[hgo];refine⟨Sg,sgE,[vU t x],rfl,Ob.o0 ?_⟩;refine⟨_,_,_,rfl,Ob.o20 ?_⟩;refine Ar.fit dC ?_;refine⟨(1,some [vU t x]),⟨oM,(by rw[Xm,hx];rfl),hall⟩,(by first | exact zf [0,2] | exact zf [0,3] | exact zf [0,4] | exact zf [0,5] | exact zf [0,6] | exact zf [0,7] | exact zf [0,8]),by dsimp only;omega⟩
   ·obtain⟨hkl,hto,hk0⟩:=hK;refine⟨λh4=>?_,λh4=>?_⟩
    ·refine Ob.o ?_;intro p hp;have hp:(kG x)[k]? =some p:=hp;refine zb.t (zcL t p ht)<|⟨λh5=>?_,λh5=>?_⟩
     ·exact bad _ (errs 0 x p k hi0 hx hk0 hp h5)
     have h5:(kv t p).2=0:=XL h5;have hk1:=(vz hk0 hp).1 h5;refine⟨Pt,ptE,[(kv t p).1],rfl,Ob.o0 ?_⟩;have htl:to.length=k:=by rw[hto];simp;omega
     refine⟨_,rfl,Ob.o21 ?_⟩;refine Ar.o ?_;refine⟨(k+1,some (to++[(kv t p).1])),⟨oM,(by rw[Xm,hp,hto];simp),hk1⟩,zf [0,1,6],by dsimp only;omega⟩
    ·have hkk:k=(kG x).length:=by omega
     subst hkk;rw[X9]at hto hk0;have hgo:zj2 x.v to=vU t x:=by rw[vU,hto]
     have hall:=fin0 0 x hi0 hx hk0;refine zb.t (znI x.v to) ?_;rw[hgo];refine⟨Sg,sgE,[vU t x],rfl,Ob.o0 ?_⟩;refine⟨_,_,_,rfl,Ob.o20 ?_⟩;refine Ar.fit dC ?_;refine⟨(1,some [vU t x]),⟨oM,(by rw[Xm,hx];rfl),hall⟩,(by first | exact zf [0,2] | exact zf [0,3] | exact zf [0,4] | exact zf [0,5] | exact zf [0,6] | exact zf [0,7] | exact zf [0,8]),by dsimp only;omega⟩
  ·have hii:0=l.length:=by omega
   have htr:trans t l=(l.map (vU t),0):=by
    rw[hii,X9]at hi0;rw[trans,if_neg h1,hi0,if_neg (λk=>k rfl)]
   exact bad 0 (by rw[htr,XJ.1 hii.symm];rfl)
 ·obtain⟨hil,hout,hi0⟩:=hI;refine⟨λh2=>?_,λh2=>?_⟩
  ·refine Ob.o ?_;intro x hx;have hx:l[i]? =some x:=hx;refine zb.t (zpB x) ?_;intro hl4
   refine⟨Nat×Option (List Pt),λq=>match q with
     | (k,none)=>⟨[(26,i64 k),(25,i64 (kG x).length),(24,.sl ptE (kG x)),(9,.val (.slice none 0 0)),(8,.loc 2 0),(19,i64 i),(18,i64 l.length),(17,.sl sgE l),(6,.own 1),(3,.loc 0 0)],[(2,.box 124 (sgE x)),(1,.arr 124 sgE 7 out),(0,.box 45 (afE t))],3,53,0⟩
     | (k,some to)=>⟨[(26,i64 k),(25,i64 (kG x).length),(24,.sl ptE (kG x)),(9,.own 3),(8,.loc 2 0),(19,i64 i),(18,i64 l.length),(17,.sl sgE l),(6,.own 1),(3,.loc 0 0)],[(3,.arr 35 ptE 2 to),(2,.box 124 (sgE x)),(1,.arr 124 sgE 7 out),(0,.box 45 (afE t))],4,53,0⟩,
    λq=>match q with
     | (k,none)=>k=0
     | (k,some to)=>k<=(kG x).length/\to=((kG x).take k).map (λp=>(kv t p).1)/\jb t ((kG x).take k)=0,λq=>(kG x).length - q.1,(0,none),rfl,?_,?_⟩
   ·exact zf [0,1,2]
   have hx3:=zxD x
   rintro⟨k,_ | to⟩ hK
   ·have hK:k=0:=hK;subst hK;have hk0:jb t ((kG x).take 0)=0:=rfl;have hkl:0<=(kG x).length:=Xe _;refine⟨λh4=>?_,λh4=>?_⟩
    ·refine Ob.o ?_;intro p hp;have hp:(kG x)[0]? =some p:=hp;refine zb.t (zcL t p ht)<|⟨λh5=>?_,λh5=>?_⟩
     ·exact bad _ (errs i x p 0 hi0 hx hk0 hp h5)
     have h5:(kv t p).2=0:=XL h5;have hk1:=(vz hk0 hp).1 h5;refine⟨Pt,ptE,[(kv t p).1],rfl,Ob.o0 ?_⟩;refine⟨_,_,_,rfl,Ob.o19 ?_⟩;refine Ar.fit dC ?_;refine⟨(1,some [(kv t p).1]),⟨oM,(by rw[Xm,hp];rfl),hk1⟩,zf [0,1,2,6],by dsimp only;omega⟩
    ·have hp0:kG x=[]:=XJ.1 oM;have hgo:zj2 x.v []=vU t x:=by rw[vU,hp0];rfl
     have hall:=fin0 i x hi0 hx (by rw[hp0];rfl);refine zb.t ((znI x.v []).args (.cons .refl (.cons zD .nil))) ?_;rw[hgo];refine⟨Sg,sgE,[vU t x],rfl,Ob.o0 ?_⟩;have hol:out.length=i:=by rw[hout];simp;omega
     refine⟨_,rfl,Ob.o22 ?_⟩;refine Ar.o ?_;refine⟨(i+1,some (out++[vU t x])),⟨oM,(by rw[Xm,hx,hout];simp),hall⟩,(by first | exact zf [0,2] | exact zf [0,3] | exact zf [0,4] | exact zf [0,5] | exact zf [0,6] | exact zf [0,7] | exact zf [0,8]),by dsimp only;omega⟩
   ·obtain⟨hkl,hto,hk0⟩:=hK;refine⟨λh4=>?_,λh4=>?_⟩
    ·refine Ob.o ?_;intro p hp;have hp:(kG x)[k]? =some p:=hp;refine zb.t (zcL t p ht)<|⟨λh5=>?_,λh5=>?_⟩
     ·exact bad _ (errs i x p k hi0 hx hk0 hp h5)
     have h5:(kv t p).2=0:=XL h5;have hk1:=(vz hk0 hp).1 h5;refine⟨Pt,ptE,[(kv t p).1],rfl,Ob.o0 ?_⟩;have htl:to.length=k:=by rw[hto];simp;omega
     refine⟨_,rfl,Ob.o21 ?_⟩;refine Ar.o ?_;refine⟨(k+1,some (to++[(kv t p).1])),⟨oM,(by rw[Xm,hp,hto];simp),hk1⟩,zf [0,1,2,7],by dsimp only;omega⟩
    ·have hkk:k=(kG x).length:=by omega
     subst hkk;rw[X9]at hto hk0;have hgo:zj2 x.v to=vU t x:=by rw[vU,hto]
     have hall:=fin0 i x hi0 hx hk0;refine zb.t (znI x.v to) ?_;rw[hgo];refine⟨Sg,sgE,[vU t x],rfl,Ob.o0 ?_⟩;have hol:out.length=i:=by rw[hout];simp;omega
     refine⟨_,rfl,Ob.o22 ?_⟩;refine Ar.o ?_;refine⟨(i+1,some (out++[vU t x])),⟨oM,(by rw[Xm,hx,hout];simp),hall⟩,(by first | exact zf [0,2] | exact zf [0,3] | exact zf [0,4] | exact zf [0,5] | exact zf [0,6] | exact zf [0,7] | exact zf [0,8]),by dsimp only;omega⟩
  ·have hii:i=l.length:=by omega
   have htr:trans t l=(l.map (vU t),0):=by
    rw[hii,X9]at hi0;rw[trans,if_neg h1,hi0,if_neg (λk=>k rfl)]
   rw[hii,X9]at hout;rw[htr,← hout];exact zI .refl .refl
def part(f:Pt->Pt)(j:Nat)(s:Sg):Sg:=⟨s.v,if 1<=j then f s.a else s.a,if 2<=j then f s.b else s.b,if 3<=j then f s.c else s.c⟩
def ze1(f:Pt->Pt)(s:Sg):Sg:=part f (nm s.v).toNat s
variable{l:List Sg}
theorem zxE(h:qU l):∀p∈qj l,zn p:=λp hp=>by
 obtain⟨s,hs,hp⟩:=Qy.1 hp
 have hf:zfk s:=by
  have e:=zl3 l;rw[← e]at hs;obtain⟨g,hg,hsg⟩:=J2.1 hs;obtain⟨k,m,mid,_,_,g3,_⟩:=zpC h g hg;exact g3 s hsg
 have hp:=XE hp;simp only[Kc,Kx,or_false]at hp
 rcases hp with rfl | rfl | rfl
 ·exact hf.1.1
 ·exact hf.2.1.1
 ·exact hf.2.2.1
theorem zxF(h:qU l){s:Sg}(hs:s∈l):zfk s:=by
 have e:=zl3 l;rw[← e]at hs;obtain⟨g,hg,hsg⟩:=J2.1 hs;obtain⟨k,m,mid,_,_,g3,_⟩:=zpC h g hg;exact g3 s hsg
theorem ztq{f:Pt->Pt->Pt}(hf:∀p q,zn p->zn q->zn (f p q)):∀(q:List Pt) (p:Pt),zn p->(∀r∈q,zn r)->zn (q.foldl f p)
 | [],_,hp,_=>hp
 | a::q,p,hp,h=>ztq hf q (f p a) (hf p a hp (h a (.head _))) λr hr=>h r (.tail _ hr)
theorem zxG{f:Pt->Pt->Pt}(hf:∀p q,zn p->zn q->zn (f p q))(h:∀r∈q,zn r):zn (bnd f q):=by
 cases q with
 | nil=>exact zp_ok
 | cons a r=>exact ztq hf (a::r) a (h a (.head _)) h
theorem zCt(f:Pt->Pt)(j:Nat)(s:Sg):(part f j s).v=s.v:=rfl
theorem zuW(f:Pt->Pt)(s:Sg):kG (ze1 f s)=(kG s).map f:=by
 have hr:=zdM s.v;have e:nm s.v<=0∨nm s.v=1∨nm s.v=2∨nm s.v=3:=oM;unfold kG ze1;rw[zCt]
 rcases e with e | e | e | e
 ·rw[show(nm s.v).toNat=0 by omega];rfl
 ·rw[show(nm s.v).toNat=1 by omega];rfl
 ·rw[show(nm s.v).toNat=2 by omega];rfl
 ·rw[show(nm s.v).toNat=3 by omega];rfl
theorem zzV(f:Pt->Pt)(l:List Sg):qj (l.map (ze1 f))=(qj l).map f:=by
 induction l with
 | nil=>rfl
 | cons s r ih=>
  have e1:qj ((s::r).map (ze1 f))=kG (ze1 f s)++qj (r.map (ze1 f)):=rfl;have e2:qj (s::r)=kG s++qj r:=rfl;rw[e1,e2,ih,zuW,XG]
theorem zCu(h:p∈q):((bnd mnP q).x<=p.x/\(bnd mnP q).y<=p.y)/\p.x<=(bnd mxP q).x/\p.y<=(bnd mxP q).y:=by
 cases q with
 | nil=>cases h
 | cons a r=>
  obtain⟨_,h2,_⟩:=ztg (a::r) a;obtain⟨_,k2,_⟩:=zth (a::r) a;exact⟨h2 p h,k2 p h⟩
theorem zkj:∀{l:List Sg} {last:Int},oks last l->∀s∈l,zfk s
 | [],_,_,s,hs=>by cases hs
 | a::r,last,h,s,hs=>by
  rcases Kc.1 hs with rfl | hs
  ·exact(u9.1 h.1).2.2
  ·exact zkj h.2 s hs
theorem zid{lo hi:Pt}{l:List Sg}{tol:Int}(h0:(zV l tol).2=0)(hb:∀p∈qj l,inB lo hi p):
  qU l/\zeZ tol/\jt (zV l tol).1<=4096/\∀q∈(zV l tol).1,q.pts≠[]/\jI q.pts/\∀z∈q.pts,inB lo hi z:=by
 unfold zV at h0 ⊢
 by_cases h1:¬qU l
 ·rw[if_pos h1]at h0;exact absurd h0 dC
 rw[if_neg h1]at h0 ⊢
 by_cases h2:¬zeZ tol
 ·rw[if_pos h2]at h0;exact absurd h0 dC
 rw[if_neg h2]at h0 ⊢
 by_cases h3:(jq l tol).2≠0
 ·rw[if_pos h3]at h0;exact absurd h0 h3
 rw[if_neg h3]at h0 ⊢
 by_cases h4:4096 < jt (jq l tol).1
 ·rw[if_pos h4]at h0;exact absurd h0 dC
 rw[if_neg h4];have:=zkf (tol:=tol) (zaQ.1 (Xa.1 h1)).2 hb l.length (Xh _);rw[X9]at this;exact⟨Xa.1 h1,Xa.1 h2,by dsimp only;omega,(this (Xa.1 h3)).2⟩
def uk(l:List Pl):List (List Pt):=(l.filter λp=>decide (3<=p.pts.length)).map Pl.pts
def yq(l:List Sg)(t:AF)(tol:Int):List (List Pt)×Int:=
 if (trans t l).2≠0 then([],(trans t l).2) else if (zV (trans t l).1 tol).2≠0 then([],(zV (trans t l).1 tol).2) else(uk (zV (trans t l).1 tol).1,0)
theorem zma:∀l:List Pl,qi (uk l)<=jt l
 | []=>Xh _
 | p::r=>by
  have ih:=zma r;have e:jt (p::r)=p.pts.length+jt r:=by unfold jt;simp
  unfold uk at ih ⊢;rw[List.filter_cons]
  split
  ·have:qi ((p::r.filter λp=>decide (3<=p.pts.length)).map Pl.pts)=p.pts.length+qi ((r.filter λp=>decide (3<=p.pts.length)).map Pl.pts):=by unfold qi;simp
   omega
  ·omega
variable{r:List Pt}
theorem zuX{l:List Pl}(h:r∈uk l):∃p∈l,p.pts=r:=by
 unfold uk at h;obtain⟨p,hp,rfl⟩:=XO.1 h;exact⟨p,(Jz.1 hp).1,rfl⟩
theorem zrV{lo hi:Pt}{l:List Sg}{t:AF}{tol:Int}(h0:(yq l t tol).2=0)(hb:∀p∈qj (trans t l).1,inB lo hi p):qi (yq l t tol).1<=4096/\∀r∈(yq l t tol).1,∀p∈r,inB lo hi p:=by
 unfold yq at h0 ⊢
 by_cases h1:(trans t l).2≠0
 ·rw[if_pos h1]at h0;exact absurd h0 h1
 rw[if_neg h1]at h0 ⊢
 by_cases h2:(zV (trans t l).1 tol).2≠0
 ·rw[if_pos h2]at h0;exact absurd h0 h2
 rw[if_neg h2];have f:=zid (Xa.1 h2) hb;refine⟨XB (zma _) f.2.2.1,λr hr p hp=>?_⟩;obtain⟨q,hq,rfl⟩:=zuX hr;exact(f.2.2.2 q hq).2.2 p hp
variable{w:Int}
theorem zmb{a b:Int}(hw:0<=w)(h:2*(a.natAbs:Int)<=w*b.natAbs):((zM a b).natAbs:Int)<=(w+1) / 2:=by
 have e:=zdD a b;rw[e]
 by_cases hb:b.natAbs=0
 ·rw[hb];simp;omega
 have hb':(0:Int) < b.natAbs:=oM;generalize a.natAbs=A at*;generalize b.natAbs=B at*;rw[show(((2*A+B) / (2*B):Nat):Int)=(2*(A:Int)+B) / (2*B) by rw[J0];simp];have h1:(2*(A:Int)+B) / (2*B)<=(w*B+B) / (2*B):=Int.ediv_le_ediv oM oM;have h2:(w*B+B:Int)=B*(w+1):=by grind
 have h3:(w*B+B:Int) / (2*B)=(w+1) / 2:=by
  rw[h2,Qm 2 (B:Int),Int.mul_ediv_mul_of_pos _ _ hb']
 omega
def zgo(w:Int)(p:Pt):Prop:=(p.x.natAbs:Int)<=(w+1) / 2/\(p.y.natAbs:Int)<=(w+1) / 2
theorem zzW{x y:Int}(hx:¬zbp x)(hy:¬zbp y):256*(x.natAbs:Int)<=isq (65536*(x*x+y*y))/\256*(y.natAbs:Int)<=isq (65536*(x*x+y*y)):=by
 unfold zbp at hx hy;have h1:=jA (A:=2097152) (B:=2097152) (a:=x) (b:=x) oM oM;have h2:=jA (A:=2097152) (B:=2097152) (a:=y) (b:=y) oM oM;have h5:=jn x;have h6:=jn y;have e1:(x.natAbs:Int)*x.natAbs=x*x:=Int.natAbs_mul_self' x;have e2:(y.natAbs:Int)*y.natAbs=y*y:=Int.natAbs_mul_self' y;refine⟨zrL oM oM ?_,zrL oM oM ?_⟩
 ·rw[show 256*(x.natAbs:Int)*(256*(x.natAbs:Int))=65536*((x.natAbs:Int)*x.natAbs) by grind,e1];omega
 ·rw[show 256*(y.natAbs:Int)*(256*(y.natAbs:Int))=65536*((y.natAbs:Int)*y.natAbs) by grind,e2];omega
theorem zgp(v:Pt)(hw:ku w):zgo w (z7 v w):=by
 unfold ku at hw;unfold z7
 split
 ·exact⟨by show((0:Int).natAbs:Int)<=_;simp;omega,by show((0:Int).natAbs:Int)<=_;simp;omega⟩
 ·rename_i h;rw[not_or,not_or,not_or]at h;have ab:=zzW h.2.1 h.2.2.1;have hL:0<=isq (65536*(v.x*v.x+v.y*v.y)):=oM;generalize isq (65536*(v.x*v.x+v.y*v.y))=L at*;have eL:(L.natAbs:Int)=L:=QK hL;have wn:(w.natAbs:Int)=w:=QK oM;refine⟨zmb oM ?_,zmb oM ?_⟩
  ·rw[Qx,Qx,Int.natAbs_neg,eL,XZ,XZ,wn];have:=Jq ab.2 (show 0<=w by omega);rw[show 2*((v.y.natAbs:Int)*w*((128:Int).natAbs:Nat))=w*(256*(v.y.natAbs:Int)) by simp;grind];exact this
  ·rw[Qx,Qx,eL,XZ,XZ,wn];have:=Jq ab.1 (show 0<=w by omega);rw[show 2*((v.x.natAbs:Int)*w*((128:Int).natAbs:Nat))=w*(256*(v.x.natAbs:Int)) by simp;grind];exact this
theorem zuY(h:q∈kS r):q=r:=by
 unfold kS at h;split at h
 ·cases h
 ·exact Xq.1 h
end
section
variable {lo hi:Pt} {w m:Int}
end
theorem zpT{w:Int}{p:Pt}(h:zgo w p):zgo w (zhk p):=by unfold zgo zhk at*;dsimp only;omega
theorem zkk{a v b:Pt}{w:Int}(hw:ku w):zgo w (qB a v b w).1/\zgo w (qB a v b w).2.1:=by
 have z:zgo w zp:=by unfold ku at hw;exact⟨by show((0:Int).natAbs:Int)<=_;simp;omega,by show((0:Int).natAbs:Int)<=_;simp;omega⟩
 unfold qB
 split
 ·exact⟨z,z⟩
 ·dsimp only
  split
  ·exact⟨z,z⟩
  ·split
   ·exact⟨zpT (zgp _ hw),zpT (zgp _ hw)⟩
   ·exact⟨zgp _ hw,zgp _ hw⟩
theorem ztr{l:List Pt}{i:Nat}(h:i < l.length):nth l i∈l:=by
 unfold nth;rw[Xt,Xb h];exact KO h
theorem zfq{p:Pl}{z:Pt}(h:z∈(zu p).pts):z∈p.pts:=by
 unfold zu at h;dsimp only at h
 split at h
 ·exact zev (zpO h)
 ·exact zev h
theorem zpU{a b M:Int}(hb:0 < b)(ha:0<=a)(h:a<=M*b):0<=zM a b/\zM a b<=M:=by
 obtain⟨Q,e⟩:∃Q:Nat,zM a b=(Q:Int):=⟨_,by unfold zM;rw[if_pos oM]⟩
 have hM:0<=M:=Q5.1 λk=>by
  have:=QT k hb;omega
 have h2:=ziK (a:=a) (b:=b) (M:=M.toNat) oM (by
  have:((M.toNat*b.natAbs:Nat):Int)=M*b:=by rw[XZ,Qs hM,QK oM]
  omega)
 omega
theorem zuZ{a b M:Int}(hb:0 < b)(ha:a<=0)(h: -(M*b)<=a): -M<=zM a b/\zM a b<=0:=by
 by_cases h0:a=0
 ·subst h0;rw[zhn]
  have hM:0<=M:=Q5.1 λk=>by
   have:=QT k hb;omega
  omega
 obtain⟨Q,e⟩:∃Q:Nat,zM a b= -(Q:Int):=⟨_,by unfold zM;rw[if_neg oM]⟩
 have hM:0<=M:=Q5.1 λk=>by
  have:=QT k hb;omega
 have h2:=ziK (a:=a) (b:=b) (M:=M.toNat) oM (by
  have:((M.toNat*b.natAbs:Nat):Int)=M*b:=by rw[XZ,Qs hM,QK oM]
  omega)
 omega
theorem zpV{f t n d lo hi:Int}(hd:1<=d)(hn:0<=n/\n<=d)(hf:lo<=f/\f<=hi)(ht:lo<=t/\t<=hi):lo<=f+zM (n*(t - f)) d/\f+zM (n*(t - f)) d<=hi:=by
 rcases QM f t with h | h
 ·have h1:=XH hn.1 (show 0<=t - f by omega);have h2:=Qw hn.2 (show 0<=t - f by omega);rw[Qm d]at h2;have:=zpU oM h1 h2;omega
 ·have h1:=XH hn.1 (show 0<=f - t by omega);have h2:=Qw hn.2 (show 0<=f - t by omega);rw[Qm d]at h2;have e:n*(t - f)= -(n*(f - t)):=by grind
  have:=zuZ (M:=f - t) (show 0 < d by omega) (a:=n*(t - f)) oM oM;omega
theorem zts{lo hi a b:Pt}{n d:Int}(ha:inB lo hi a)(hb:inB lo hi b)(oa:zn a)(ob:zn b):inB lo hi (qQ a b n d):=by
 unfold qQ
 split
 ·rw[zb4 oa];exact ha
 ·rename_i h;have hc:=zcH (n:=n) (d:=d) oM;rw[uY oa.1,uY oa.2,uY ob.1,uY ob.2];exact⟨zpV oM hc ha.1 hb.1,zpV oM hc ha.2 hb.2⟩
theorem zxH{p:Pl}{z:Pt}(h:z∈ze p):z∈p.pts:=by
 unfold ze at h
 split at h
 ·rename_i c
  rcases Xo.1 h with h | h
  ·exact zfq h
  ·rw[Xq.1 h];exact zfq (ztr oM)
 ·exact zfq h
theorem zpW{p:Pl}(h:(ze p).length < 2):zK p=0:=by
 unfold zK;rw[show(ze p).length - 1=0 by omega];rfl
theorem ziL{w:Int}{p:Pt}(hw:ku w)(h:zgo w p):zn p:=by unfold ku at hw;unfold zgo at h;unfold zn;omega
theorem ztt(n m:Pt)(w lim:Int):S50 (u6 n m w lim).1.x/\S50 (u6 n m w lim).1.y:=by
 unfold u6
 split
 ·exact⟨dC,dC⟩
 ·rename_i h;obtain⟨hn,hm,hw,_⟩:=Xa.1 h;have hs:=zhs hn hm;dsimp only
  split
  ·exact⟨dC,dC⟩
  ·generalize zz n m=s at*;have t:=zb9 hs.1 hw;have t':=zb9 hs.2 hw;exact⟨u7 (M:=1125899906842624) oM,u7 (M:=1125899906842624) oM⟩
theorem ztu{a v b:Pt}{p:Pen}(h:kI p/\zn a/\zn v/\zn b/\¬v=a/\¬v=b):ji a v b p=
  if p.j=3 then kS (vI v p.w) else if (qB a v b p.w).2.2=false then[]
  else kS (kJ (if p.j=1/\(u6 (qB a v b p.w).1 (qB a v b p.w).2.1 p.w p.m).2=true then[v,zz v (qB a v b p.w).1,zz v (u6 (qB a v b p.w).1 (qB a v b p.w).2.1 p.w p.m).1,zz v (qB a v b p.w).2.1]
   else[v,zz v (qB a v b p.w).1,zz v (qB a v b p.w).2.1])):=by
 unfold ji;rw[kQ h]
theorem zCv(a v b:Pt)(p:Pen):CG0 311 [.agg (ptE a),.agg (ptE v),.agg (ptE b),.agg (jo p)] [] (.sl zh (ji a v b p)) []:=by
 refine zc Tryz.func311 ?_
 have bad:¬(kI p/\zn a/\zn v/\zn b/\¬v=a/\¬v=b)->LE (.val (.slice none 0 0)) (.sl zh (ji a v b p)):=λh=>by
  unfold ji;rw[if_pos h];exact zD
 refine zb.t (zeu p)<|⟨λa1=>bad (λh=>a1 h.1),λa1=>?_⟩;refine zb.t (qh a)<|⟨λa2=>bad (λh=>a2 h.2.1),λa2=>?_⟩;refine zb.t (qh v)<|⟨λa3=>bad (λh=>a3 h.2.2.1),λa3=>?_⟩;refine zb.t (qh b)<|⟨λa4=>bad (λh=>a4 h.2.2.2.1),λa4=>?_⟩;refine⟨λa5=>bad (λh=>h.2.2.2.2.1 (k9.1 a5)),λa5=>?_⟩;refine⟨λa6=>bad (λh=>h.2.2.2.2.2 (k9.1 a6)),λa6=>?_⟩
 have hok:kI p/\zn a/\zn v/\zn b/\¬v=a/\¬v=b:=
  ⟨Xa.1 a1,Xa.1 a2,Xa.1 a3,Xa.1 a4,λe=>a5 (k9.2 e),λe=>a6 (k9.2 e)⟩
 have hv:=hok.2.2.1;have hw:=hok.1.1;have e:=ztu hok;refine⟨λj1=>?_,λj1=>?_⟩
 ·have j1:p.j=3:=j1;exact zb.t (zrS v p.w)<|zb.t (znL (vI v p.w))<|z9 (e.trans (if_pos j1)).symm
 have j1:¬p.j=3:=j1;rw[if_neg j1]at e;refine zb.t (zzP a v b p.w)<|⟨λk=>?_,λk=>?_⟩
 ·have k:¬(qB a v b p.w).2.2=true:=k;rw[if_pos (by simpa using k)]at e;rw[e];exact zD
 have k:(qB a v b p.w).2.2=true:=Xa.1 k;rw[if_neg (by rw[k];decide)]at e;have oh:=zkk (a:=a) (v:=v) (b:=b) hw;have o1:=ziL hw oh.1;have o2:=ziL hw oh.2;generalize (qB a v b p.w).1=n at*;generalize (qB a v b p.w).2.1=m at*;refine Dr.d<|zb.t (zex v n hv.p45.s o1.p45.s)<|⟨Pt,ptE,[v,zz v n],rfl,Ob.o0 ?_⟩;refine Ob.mk (by kernel_rfl) ?_
 have tail:∀(q:List Pt),(¬(p.j=1/\(u6 n m p.w p.m).2=true))->q=[v,zz v n,zz v m]->LE (.sl zh (kS (kJ q))) (.sl zh (ji a v b p)):=λq h hq=>by
  rw[e,if_neg h,hq];exact .refl
 refine⟨λj2=>?_,λj2=>?_⟩
 ·have j2:p.j=1:=j2;refine zb.t (p_tip n m p.w p.m) ?_;have ht:=ztt n m p.w p.m;refine⟨λs1=>?_,λs1=>?_⟩
  ·refine zb.t (zex v (u6 n m p.w p.m).1 hv.p45.s ht)<|⟨Pt,ptE,[zz v (u6 n m p.w p.m).1],rfl,Ob.o0 ?_⟩;refine⟨[zz v (u6 n m p.w p.m).1],rfl,Ob.o7 ?_⟩;refine zb.t (zex v m hv.p45.s o2.p45.s)<|⟨Pt,ptE,[zz v m],rfl,Ob.o0 ?_⟩;refine⟨[zz v m],rfl,Ob.o14 ?_⟩;refine zb.see 11 _ (zbc [v,zz v n,zz v (u6 n m p.w p.m).1,zz v m] (by show((4:Nat):Int)<=_;decide)) rfl rfl rfl<|zb.t (znL (kJ [v,zz v n,zz v (u6 n m p.w p.m).1,zz v m])) ?_;rw[e,if_pos ⟨j2,s1⟩];exact .refl
  ·refine zb.t (zex v m hv.p45.s o2.p45.s)<|⟨Pt,ptE,[zz v m],rfl,Ob.o0 ?_⟩;refine⟨[zz v m],rfl,Ob.o7 ?_⟩;exact zb.see 9 _ (zbc [v,zz v n,zz v m] (by show((3:Nat):Int)<=_;decide)) rfl rfl rfl<|zb.t (znL (kJ [v,zz v n,zz v m]))<|tail _ (λh=>s1 h.2) rfl
 ·have j2:¬p.j=1:=j2;refine zb.t (zex v m hv.p45.s o2.p45.s)<|⟨Pt,ptE,[zz v m],rfl,Ob.o0 ?_⟩;refine⟨[zz v m],rfl,Ob.o7 ?_⟩;exact zb.see 8 _ (zbc [v,zz v n,zz v m] (by show((3:Nat):Int)<=_;decide)) rfl rfl rfl<|zb.t (znL (kJ [v,zz v n,zz v m]))<|tail _ (λh=>j2 h.1) rfl
theorem zCw(a v b:Pt)(p:Pen):CG0 316 [.agg (ptE a),.agg (ptE v),.agg (ptE b),.agg (jo p)] [] (.sl zh (ji a v b p)) []:=by
 refine zc Tryz.func316 ?_
 have bad:¬(kI p/\zn a/\zn v/\zn b/\¬v=a/\¬v=b)->LE (.val (.slice none 0 0)) (.sl zh (ji a v b p)):=λh=>by
  unfold ji;rw[if_pos h];exact zD
 refine zb.t (zcJ p)<|⟨λa1=>bad (λh=>a1 h.1),λa1=>?_⟩;refine zb.t (kK a)<|⟨λa2=>bad (λh=>a2 h.2.1),λa2=>?_⟩;refine zb.t (kK v)<|⟨λa3=>bad (λh=>a3 h.2.2.1),λa3=>?_⟩;refine zb.t (kK b)<|⟨λa4=>bad (λh=>a4 h.2.2.2.1),λa4=>?_⟩;refine⟨λa5=>bad (λh=>h.2.2.2.2.1 (k9.1 a5)),λa5=>?_⟩;refine⟨λa6=>bad (λh=>h.2.2.2.2.2 (k9.1 a6)),λa6=>?_⟩
 have hok:kI p/\zn a/\zn v/\zn b/\¬v=a/\¬v=b:=
  ⟨Xa.1 a1,Xa.1 a2,Xa.1 a3,Xa.1 a4,λe=>a5 (k9.2 e),λe=>a6 (k9.2 e)⟩
 have hv:=hok.2.2.1;have hw:=hok.1.1;have e:=ztu hok
 have fin:∀(r:List Pt),ji a v b p=kS r->((r.length:Int)=0->LE (.val (.slice none 0 0)) (.sl zh (ji a v b p)))/\(¬(r.length:Int)=0->ji a v b p=[r]):=λr hr=>by
  refine⟨λh=>?_,λh=>?_⟩
  ·have:r=[]:=Xn oM;rw[hr,this];exact zD
  ·rw[hr];unfold kS;rw[if_neg (λk=>h (by rw[k];rfl))]
 refine⟨λj1=>?_,λj1=>?_⟩
 ·have j1:p.j=3:=j1;refine zb.t (zrR v p.w) ?_;intro hl;have f:=fin _ (e.trans (if_pos j1));refine⟨λz=>f.1 z,λz=>?_⟩;refine⟨List Pt,zh,[vI v p.w],rfl,Ob.o0 ?_⟩;exact z9 (f.2 z).symm
 have j1:¬p.j=3:=j1;rw[if_neg j1]at e;refine zb.t (zzQ a v b p.w)<|⟨λk=>?_,λk=>?_⟩
 ·have k:¬(qB a v b p.w).2.2=true:=k;rw[if_pos (by simpa using k)]at e;rw[e];exact zD
 have k:(qB a v b p.w).2.2=true:=Xa.1 k;rw[if_neg (by rw[k];decide)]at e;have oh:=zkk (a:=a) (v:=v) (b:=b) hw;have o1:=ziL hw oh.1;have o2:=ziL hw oh.2;generalize (qB a v b p.w).1=n at*;generalize (qB a v b p.w).2.1=m at*;refine zb.t (r_tip n m p.w p.m) ?_;have ht:=ztt n m p.w p.m;have cn:=zxg v n;rw[zkc hv o1]at cn;have cm:=zxg v m;rw[zkc hv o2]at cm;refine Dr.d<|zb.t cn<|⟨Pt,ptE,[v,zz v n],rfl,Ob.o0 ?_⟩;refine Ob.mk (by kernel_rfl) ?_
 have plain:(¬(p.j=1/\(u6 n m p.w p.m).2=true))->ji a v b p=kS (kJ [v,zz v n,zz v m]):=λh=>by
  rw[e,if_neg h]
 refine⟨λj2=>?_,λj2=>?_⟩
 ·have j2:p.j=1:=j2;refine⟨λs1=>?_,λs1=>?_⟩
  ·unfold zn at hv;(iterate 2 refine Ar.o ?_);refine⟨Pt,ptE,[zz v (u6 n m p.w p.m).1],rfl,Ob.o0 ?_⟩;refine⟨[zz v (u6 n m p.w p.m).1],rfl,Ob.o7 ?_⟩;refine zb.t cm<|⟨Pt,ptE,[zz v m],rfl,Ob.o0 ?_⟩;refine⟨[zz v m],rfl,Ob.o14 ?_⟩;refine zb.see 11 _ (zbb [v,zz v n,zz v (u6 n m p.w p.m).1,zz v m]) rfl rfl rfl ?_;intro hl;have f:=fin (kJ [v,zz v n,zz v (u6 n m p.w p.m).1,zz v m]) (by rw[e,if_pos ⟨j2,s1⟩]);refine⟨λz=>f.1 z,λz=>?_⟩;refine⟨List Pt,zh,[kJ [v,zz v n,zz v (u6 n m p.w p.m).1,zz v m]],rfl,Ob.o0 ?_⟩
   exact z9 (f.2 z).symm
  ·refine zb.t cm<|⟨Pt,ptE,[zz v m],rfl,Ob.o0 ?_⟩;refine⟨[zz v m],rfl,Ob.o7 ?_⟩;refine zb.see 9 _ (zbb [v,zz v n,zz v m]) rfl rfl rfl ?_;intro hl;have f:=fin (kJ [v,zz v n,zz v m]) (plain λh=>s1 h.2);refine⟨λz=>f.1 z,λz=>?_⟩;refine⟨List Pt,zh,[kJ [v,zz v n,zz v m]],rfl,Ob.o0 ?_⟩;exact z9 (f.2 z).symm
 ·have j2:¬p.j=1:=j2;refine zb.t cm<|⟨Pt,ptE,[zz v m],rfl,Ob.o0 ?_⟩;refine⟨[zz v m],rfl,Ob.o7 ?_⟩;refine zb.see 9 _ (zbb [v,zz v n,zz v m]) rfl rfl rfl ?_;intro hl;have f:=fin (kJ [v,zz v n,zz v m]) (plain λh=>j2 h.1);refine⟨λz=>f.1 z,λz=>?_⟩;refine⟨List Pt,zh,[kJ [v,zz v n,zz v m]],rfl,Ob.o0 ?_⟩;exact z9 (f.2 z).symm
theorem zkl{l:List Pl}{i:Nat}{x:Pl}(h:l[i]? =some x):uk (l.take (i+1))=uk (l.take i)++if 3<=x.pts.length then[x.pts] else[]:=by
 unfold uk;rw[Xm,h]
 by_cases c:3<=x.pts.length
 ·simp[c]
 ·simp[c]
theorem zkm(l:List Pl):(uk l).length<=l.length:=by
 unfold uk;rw[Xz];exact QF _ _
theorem zxI(l:List Pl)(hl:l.length<=4096)(hp:∀q∈l,q.pts.length<=4096):CG0 108 [.sl plE l] [] (.sl zh (uk l)) []:=by
 refine zc Tryz.func108 ?_;intro hl1;refine⟨Nat,λi=>⟨[(3,.own 0),(6,.sl plE l),(7,i64 (l.length:Int)),(8,i64 (i:Int))],[(0,.arr 72 zh 1 (uk (l.take i)))],1,24,0⟩,λi=>i<=l.length,λi=>l.length - i,0,?_,?_,?_⟩
 ·exact Xe _
 ·exact zE [(0,none)]
 rintro i hi
 have hlen:=zkm (l.take i);rw[Xk]at hlen;refine⟨λg=>?_,λg=>?_⟩
 ·have g:(i:Int) < l.length:=g;refine Ob.o ?_;intro x hx;have hx:l[i]? =some x:=hx;intro hl3;have e:=zkl hx;refine⟨λc=>?_,λc=>?_⟩
  ·have c:(3:Int)<=x.pts.length:=c;refine zb.t ((znK x.pts (hp x (Xd hx))).plain rfl)<|⟨List Pt,zh,[x.pts],rfl,Ob.o0 ?_⟩;refine⟨[x.pts],rfl,Ob.o15 ?_⟩;refine Ar.o<|⟨i+1,oM,zC [3] ⟨congrArg (λq=>some (Mem.arr 72 zh 1 q)) ?_,trivial⟩,by dsimp only;omega⟩;rw[e,if_pos oM]
  ·have c:¬(3:Int)<=x.pts.length:=c;refine Ar.o<|⟨i+1,oM,zC [0] ⟨congrArg (λq=>some (Mem.arr 72 zh 1 q)) ?_,trivial⟩,by dsimp only;omega⟩;rw[e,if_neg oM,Xy]
 ·have g:¬(i:Int) < l.length:=g;exact z9 (by rw[Xf oM])
theorem zxJ(l:List Pl)(hl:l.length<=4096)(hp:∀q∈l,q.pts.length<=4096):CG0 59 [.sl plE l] [] (.sl zh (uk l)) []:=by
 refine zc Tryz.func59 ?_;refine⟨List Pt,zh,[],rfl,Ob.o2 ?_⟩;refine⟨Nat,λi=>⟨[(3,.own 0),(0,.sl plE l),(4,i64 (i:Int))],[(0,.arr 72 zh 1 (uk (l.take i)))],1,29,0⟩,λi=>i<=l.length,λi=>l.length - i,0,?_,?_,?_⟩
 ·exact Xe _
 ·exact zf [0]
 rintro i hi
 have hlen:=zkm (l.take i);rw[Xk]at hlen;intro hl1;refine⟨λg=>?_,λg=>?_⟩
 ·have g:(i:Int) < l.length:=g;refine Ob.o ?_;intro x hx;have hx:l[i]? =some x:=hx;intro hl3;have e:=zkl hx;refine⟨λc=>?_,λc=>?_⟩
  ·have c:(3:Int)<=x.pts.length:=c;refine Ob.o ?_;intro y hy;have ey:y=x:=Xi ((show l[i]? =some y from hy).symm.trans hx);rw[ey];refine zb.t (zpG x.pts (hp x (Xd hx)))<|⟨List Pt,zh,[x.pts],rfl,Ob.o0 ?_⟩;refine⟨[x.pts],rfl,Ob.o15 ?_⟩;refine Ar.o<|⟨i+1,oM,zC [2] ⟨congrArg (λq=>some (Mem.arr 72 zh 1 q)) ?_,trivial⟩,by dsimp only;omega⟩;rw[e,if_pos oM]
  ·have c:¬(3:Int)<=x.pts.length:=c;refine Ar.o<|⟨i+1,oM,zC [0] ⟨congrArg (λq=>some (Mem.arr 72 zh 1 q)) ?_,trivial⟩,by dsimp only;omega⟩;rw[e,if_neg oM,Xy]
 ·have g:¬(i:Int) < l.length:=g;exact z9 (by rw[Xf oM])
end Go.Gs
