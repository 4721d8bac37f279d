/- The disc of a stroke, the program's. -/
import Derived.Test.YtjgadnaphffpkaaGreatDoorMA
import Derived.Test.YtjgadnaphffpkaaGreatDoorMAR
import Derived.Test.YtjgadnaphffpkaaGreatDoorMAP
import Derived.Test.YtjgadnaphffpkaaGreatDoorMAQ
set_option maxRecDepth 100000
set_option maxHeartbeats 8000000
set_option linter.all false
namespace Go.Gs
open Go.Proofs
section
theorem zrc(p:Pt)(w:Int):CG0 356 [.agg (ptE p),i64 w] [] (.sl ptE (vA p w)) []:=by
 refine zc Tryz.func356 ?_
 have bad:¬(kr w/\zr p)->LE (.val (.slice none 0 0)) (.sl ptE (vA p w)):=λh=>by
  unfold vA;rw[if_pos h];exact zD
 refine zb.t (vK w)<|⟨λa1=>bad (λh=>a1 h.1),λa1=>?_⟩;refine zb.t (qg p)<|⟨λa2=>bad (λh=>a2 h.2),λa2=>?_⟩;have h:kr w/\zr p:=⟨Xa.1 a1,Xa.1 a2⟩;refine zb.t zBg<|⟨Nat,λi=>⟨[(17,i64 (i:Int)),(16,.agg (zaq 4 0)),(5,.own 1),(2,.loc 0 0),(1,i64 w)],[(1,.arr 35 ptE 2 ((zw.take i).map (qK p w))),(0,.box 35 (ptE p))],2,39,0⟩,λi=>i<=16,λi=>16 - i,0,?_,?_,?_⟩
 ·exact Xe _
 ·exact zE [(0,some 0),(1,none)]
 rintro i hi
 match i,hi with
 | 0,_=>
  have hb:=jV (zw.getD 0 zp) dC;have t1:=z0 hb.1 h.1;have t2:=z0 hb.2 h.1;refine Br.y<|Dr.d<|Ar.fit (show -9223372036854775808<=(zw.getD 0 zp).x*w/\(zw.getD 0 zp).x*w<=9223372036854775807 by omega)<|zb.t (zM ((zw.getD 0 zp).x*w) 32768 ⟨oM,oM⟩ ⟨dC,dC⟩) ?_;rw[t1.2.2];refine Ar.fit (show -9223372036854775808<=(zw.getD 0 zp).y*w/\(zw.getD 0 zp).y*w<=9223372036854775807 by omega)<|zb.t (zM ((zw.getD 0 zp).y*w) 32768 ⟨oM,oM⟩ ⟨dC,dC⟩) ?_;rw[t2.2.2]
  refine zb.t (yc p ⟨zQ ((zw.getD 0 zp).x*w) 32768,zQ ((zw.getD 0 zp).y*w) 32768⟩ h.2.p45.s ⟨by dsimp only;omega,by dsimp only;omega⟩)<|⟨Pt,ptE,[qK p w (zw.getD 0 zp)],rfl,Ob.o0 ?_⟩;refine⟨[qK p w (zw.getD 0 zp)],rfl,Ob.mk ⟨by show((0:Nat)+((1:Nat):Int))*16<=_;decide,by show 0+1<=_;decide,dC,λ_ _=>rfl⟩ ?_⟩;exact Ob.mk (by kernel_rfl)<|Ar.fit dC<|⟨1,dC,zf [0,4],dC⟩
 | 1,_=>
  have hb:=jV (zw.getD 1 zp) dC;have t1:=z0 hb.1 h.1;have t2:=z0 hb.2 h.1;refine Br.y<|Dr.d<|Ar.fit (show -9223372036854775808<=(zw.getD 1 zp).x*w/\(zw.getD 1 zp).x*w<=9223372036854775807 by omega)<|zb.t (zM ((zw.getD 1 zp).x*w) 32768 ⟨oM,oM⟩ ⟨dC,dC⟩) ?_;rw[t1.2.2];refine Ar.fit (show -9223372036854775808<=(zw.getD 1 zp).y*w/\(zw.getD 1 zp).y*w<=9223372036854775807 by omega)<|zb.t (zM ((zw.getD 1 zp).y*w) 32768 ⟨oM,oM⟩ ⟨dC,dC⟩) ?_;rw[t2.2.2]
  refine zb.t (yc p ⟨zQ ((zw.getD 1 zp).x*w) 32768,zQ ((zw.getD 1 zp).y*w) 32768⟩ h.2.p45.s ⟨by dsimp only;omega,by dsimp only;omega⟩)<|⟨Pt,ptE,[qK p w (zw.getD 1 zp)],rfl,Ob.o0 ?_⟩;refine⟨[qK p w (zw.getD 1 zp)],rfl,Ob.mk ⟨by show((1:Nat)+((1:Nat):Int))*16<=_;decide,by show 1+1<=_;decide,dC,λ_ _=>rfl⟩ ?_⟩;exact Ob.mk (by kernel_rfl)<|Ar.fit dC<|⟨2,dC,zf [0,4],dC⟩
 | 2,_=>
  have hb:=jV (zw.getD 2 zp) dC;have t1:=z0 hb.1 h.1;have t2:=z0 hb.2 h.1;refine Br.y<|Dr.d<|Ar.fit (show -9223372036854775808<=(zw.getD 2 zp).x*w/\(zw.getD 2 zp).x*w<=9223372036854775807 by omega)<|zb.t (zM ((zw.getD 2 zp).x*w) 32768 ⟨oM,oM⟩ ⟨dC,dC⟩) ?_;rw[t1.2.2];refine Ar.fit (show -9223372036854775808<=(zw.getD 2 zp).y*w/\(zw.getD 2 zp).y*w<=9223372036854775807 by omega)<|zb.t (zM ((zw.getD 2 zp).y*w) 32768 ⟨oM,oM⟩ ⟨dC,dC⟩) ?_;rw[t2.2.2]
  refine zb.t (yc p ⟨zQ ((zw.getD 2 zp).x*w) 32768,zQ ((zw.getD 2 zp).y*w) 32768⟩ h.2.p45.s ⟨by dsimp only;omega,by dsimp only;omega⟩)<|⟨Pt,ptE,[qK p w (zw.getD 2 zp)],rfl,Ob.o0 ?_⟩;refine⟨[qK p w (zw.getD 2 zp)],rfl,Ob.o7 ?_⟩;exact Ob.mk (by kernel_rfl)<|Ar.fit dC<|⟨3,dC,zf [0,4],dC⟩
 | 3,_=>
  have hb:=jV (zw.getD 3 zp) dC;have t1:=z0 hb.1 h.1;have t2:=z0 hb.2 h.1;refine Br.y<|Dr.d<|Ar.fit (show -9223372036854775808<=(zw.getD 3 zp).x*w/\(zw.getD 3 zp).x*w<=9223372036854775807 by omega)<|zb.t (zM ((zw.getD 3 zp).x*w) 32768 ⟨oM,oM⟩ ⟨dC,dC⟩) ?_;rw[t1.2.2];refine Ar.fit (show -9223372036854775808<=(zw.getD 3 zp).y*w/\(zw.getD 3 zp).y*w<=9223372036854775807 by omega)<|zb.t (zM ((zw.getD 3 zp).y*w) 32768 ⟨oM,oM⟩ ⟨dC,dC⟩) ?_;rw[t2.2.2]
  refine zb.t (yc p ⟨zQ ((zw.getD 3 zp).x*w) 32768,zQ ((zw.getD 3 zp).y*w) 32768⟩ h.2.p45.s ⟨by dsimp only;omega,by dsimp only;omega⟩)<|⟨Pt,ptE,[qK p w (zw.getD 3 zp)],rfl,Ob.o0 ?_⟩;refine⟨[qK p w (zw.getD 3 zp)],rfl,Ob.o14 ?_⟩;exact Ob.mk (by kernel_rfl)<|Ar.fit dC<|⟨4,dC,zf [0,4],dC⟩
 | 4,_=>
  have hb:=jV (zw.getD 4 zp) dC;have t1:=z0 hb.1 h.1;have t2:=z0 hb.2 h.1;refine Br.y<|Dr.d<|Ar.fit (show -9223372036854775808<=(zw.getD 4 zp).x*w/\(zw.getD 4 zp).x*w<=9223372036854775807 by omega)<|zb.t (zM ((zw.getD 4 zp).x*w) 32768 ⟨oM,oM⟩ ⟨dC,dC⟩) ?_;rw[t1.2.2];refine Ar.fit (show -9223372036854775808<=(zw.getD 4 zp).y*w/\(zw.getD 4 zp).y*w<=9223372036854775807 by omega)<|zb.t (zM ((zw.getD 4 zp).y*w) 32768 ⟨oM,oM⟩ ⟨dC,dC⟩) ?_;rw[t2.2.2]
  refine zb.t (yc p ⟨zQ ((zw.getD 4 zp).x*w) 32768,zQ ((zw.getD 4 zp).y*w) 32768⟩ h.2.p45.s ⟨by dsimp only;omega,by dsimp only;omega⟩)<|⟨Pt,ptE,[qK p w (zw.getD 4 zp)],rfl,Ob.o0 ?_⟩;refine⟨[qK p w (zw.getD 4 zp)],rfl,Ob.mk ⟨by show((4:Nat)+((1:Nat):Int))*16<=_;decide,by show 4+1<=_;decide,dC,λ_ _=>rfl⟩ ?_⟩;exact Ob.mk (by kernel_rfl)<|Ar.fit dC<|⟨5,dC,zf [0,4],dC⟩
 | 5,_=>
  have hb:=jV (zw.getD 5 zp) dC;have t1:=z0 hb.1 h.1;have t2:=z0 hb.2 h.1;refine Br.y<|Dr.d<|Ar.fit (show -9223372036854775808<=(zw.getD 5 zp).x*w/\(zw.getD 5 zp).x*w<=9223372036854775807 by omega)<|zb.t (zM ((zw.getD 5 zp).x*w) 32768 ⟨oM,oM⟩ ⟨dC,dC⟩) ?_;rw[t1.2.2];refine Ar.fit (show -9223372036854775808<=(zw.getD 5 zp).y*w/\(zw.getD 5 zp).y*w<=9223372036854775807 by omega)<|zb.t (zM ((zw.getD 5 zp).y*w) 32768 ⟨oM,oM⟩ ⟨dC,dC⟩) ?_;rw[t2.2.2]
  refine zb.t (yc p ⟨zQ ((zw.getD 5 zp).x*w) 32768,zQ ((zw.getD 5 zp).y*w) 32768⟩ h.2.p45.s ⟨by dsimp only;omega,by dsimp only;omega⟩)<|⟨Pt,ptE,[qK p w (zw.getD 5 zp)],rfl,Ob.o0 ?_⟩;refine⟨[qK p w (zw.getD 5 zp)],rfl,Ob.mk ⟨by show((5:Nat)+((1:Nat):Int))*16<=_;decide,by show 5+1<=_;decide,dC,λ_ _=>rfl⟩ ?_⟩;exact Ob.mk (by kernel_rfl)<|Ar.fit dC<|⟨6,dC,zf [0,4],dC⟩
 | 6,_=>
  have hb:=jV (zw.getD 6 zp) dC;have t1:=z0 hb.1 h.1;have t2:=z0 hb.2 h.1;refine Br.y<|Dr.d<|Ar.fit (show -9223372036854775808<=(zw.getD 6 zp).x*w/\(zw.getD 6 zp).x*w<=9223372036854775807 by omega)<|zb.t (zM ((zw.getD 6 zp).x*w) 32768 ⟨oM,oM⟩ ⟨dC,dC⟩) ?_;rw[t1.2.2];refine Ar.fit (show -9223372036854775808<=(zw.getD 6 zp).y*w/\(zw.getD 6 zp).y*w<=9223372036854775807 by omega)<|zb.t (zM ((zw.getD 6 zp).y*w) 32768 ⟨oM,oM⟩ ⟨dC,dC⟩) ?_;rw[t2.2.2]
  refine zb.t (yc p ⟨zQ ((zw.getD 6 zp).x*w) 32768,zQ ((zw.getD 6 zp).y*w) 32768⟩ h.2.p45.s ⟨by dsimp only;omega,by dsimp only;omega⟩)<|⟨Pt,ptE,[qK p w (zw.getD 6 zp)],rfl,Ob.o0 ?_⟩;refine⟨[qK p w (zw.getD 6 zp)],rfl,Ob.mk ⟨by show((6:Nat)+((1:Nat):Int))*16<=_;decide,by show 6+1<=_;decide,dC,λ_ _=>rfl⟩ ?_⟩;exact Ob.mk (by kernel_rfl)<|Ar.fit dC<|⟨7,dC,zf [0,4],dC⟩
 | 7,_=>
  have hb:=jV (zw.getD 7 zp) dC;have t1:=z0 hb.1 h.1;have t2:=z0 hb.2 h.1;refine Br.y<|Dr.d<|Ar.fit (show -9223372036854775808<=(zw.getD 7 zp).x*w/\(zw.getD 7 zp).x*w<=9223372036854775807 by omega)<|zb.t (zM ((zw.getD 7 zp).x*w) 32768 ⟨oM,oM⟩ ⟨dC,dC⟩) ?_;rw[t1.2.2];refine Ar.fit (show -9223372036854775808<=(zw.getD 7 zp).y*w/\(zw.getD 7 zp).y*w<=9223372036854775807 by omega)<|zb.t (zM ((zw.getD 7 zp).y*w) 32768 ⟨oM,oM⟩ ⟨dC,dC⟩) ?_;rw[t2.2.2]
  refine zb.t (yc p ⟨zQ ((zw.getD 7 zp).x*w) 32768,zQ ((zw.getD 7 zp).y*w) 32768⟩ h.2.p45.s ⟨by dsimp only;omega,by dsimp only;omega⟩)<|⟨Pt,ptE,[qK p w (zw.getD 7 zp)],rfl,Ob.o0 ?_⟩;refine⟨[qK p w (zw.getD 7 zp)],rfl,Ob.mk ⟨by show((7:Nat)+((1:Nat):Int))*16<=_;decide,by show 7+1<=_;decide,dC,λ_ _=>rfl⟩ ?_⟩;exact Ob.mk (by kernel_rfl)<|Ar.fit dC<|⟨8,dC,zf [0,4],dC⟩
 | 8,_=>
  have hb:=jV (zw.getD 8 zp) dC;have t1:=z0 hb.1 h.1;have t2:=z0 hb.2 h.1;refine Br.y<|Dr.d<|Ar.fit (show -9223372036854775808<=(zw.getD 8 zp).x*w/\(zw.getD 8 zp).x*w<=9223372036854775807 by omega)<|zb.t (zM ((zw.getD 8 zp).x*w) 32768 ⟨oM,oM⟩ ⟨dC,dC⟩) ?_;rw[t1.2.2];refine Ar.fit (show -9223372036854775808<=(zw.getD 8 zp).y*w/\(zw.getD 8 zp).y*w<=9223372036854775807 by omega)<|zb.t (zM ((zw.getD 8 zp).y*w) 32768 ⟨oM,oM⟩ ⟨dC,dC⟩) ?_;rw[t2.2.2]
  refine zb.t (yc p ⟨zQ ((zw.getD 8 zp).x*w) 32768,zQ ((zw.getD 8 zp).y*w) 32768⟩ h.2.p45.s ⟨by dsimp only;omega,by dsimp only;omega⟩)<|⟨Pt,ptE,[qK p w (zw.getD 8 zp)],rfl,Ob.o0 ?_⟩;refine⟨[qK p w (zw.getD 8 zp)],rfl,Ob.mk ⟨by show((8:Nat)+((1:Nat):Int))*16<=_;decide,by show 8+1<=_;decide,dC,λ_ _=>rfl⟩ ?_⟩;exact Ob.mk (by kernel_rfl)<|Ar.fit dC<|⟨9,dC,zf [0,4],dC⟩
 | 9,_=>
  have hb:=jV (zw.getD 9 zp) dC;have t1:=z0 hb.1 h.1;have t2:=z0 hb.2 h.1;refine Br.y<|Dr.d<|Ar.fit (show -9223372036854775808<=(zw.getD 9 zp).x*w/\(zw.getD 9 zp).x*w<=9223372036854775807 by omega)<|zb.t (zM ((zw.getD 9 zp).x*w) 32768 ⟨oM,oM⟩ ⟨dC,dC⟩) ?_;rw[t1.2.2];refine Ar.fit (show -9223372036854775808<=(zw.getD 9 zp).y*w/\(zw.getD 9 zp).y*w<=9223372036854775807 by omega)<|zb.t (zM ((zw.getD 9 zp).y*w) 32768 ⟨oM,oM⟩ ⟨dC,dC⟩) ?_;rw[t2.2.2]
  refine zb.t (yc p ⟨zQ ((zw.getD 9 zp).x*w) 32768,zQ ((zw.getD 9 zp).y*w) 32768⟩ h.2.p45.s ⟨by dsimp only;omega,by dsimp only;omega⟩)<|⟨Pt,ptE,[qK p w (zw.getD 9 zp)],rfl,Ob.o0 ?_⟩;refine⟨[qK p w (zw.getD 9 zp)],rfl,Ob.mk ⟨by show((9:Nat)+((1:Nat):Int))*16<=_;decide,by show 9+1<=_;decide,dC,λ_ _=>rfl⟩ ?_⟩;exact Ob.mk (by kernel_rfl)<|Ar.fit dC<|⟨10,dC,zf [0,4],dC⟩
 | 10,_=>
  have hb:=jV (zw.getD 10 zp) dC;have t1:=z0 hb.1 h.1;have t2:=z0 hb.2 h.1;refine Br.y<|Dr.d<|Ar.fit (show -9223372036854775808<=(zw.getD 10 zp).x*w/\(zw.getD 10 zp).x*w<=9223372036854775807 by omega)<|zb.t (zM ((zw.getD 10 zp).x*w) 32768 ⟨oM,oM⟩ ⟨dC,dC⟩) ?_;rw[t1.2.2];refine Ar.fit (show -9223372036854775808<=(zw.getD 10 zp).y*w/\(zw.getD 10 zp).y*w<=9223372036854775807 by omega)<|zb.t (zM ((zw.getD 10 zp).y*w) 32768 ⟨oM,oM⟩ ⟨dC,dC⟩) ?_;rw[t2.2.2]
  refine zb.t (yc p ⟨zQ ((zw.getD 10 zp).x*w) 32768,zQ ((zw.getD 10 zp).y*w) 32768⟩ h.2.p45.s ⟨by dsimp only;omega,by dsimp only;omega⟩)<|⟨Pt,ptE,[qK p w (zw.getD 10 zp)],rfl,Ob.o0 ?_⟩;refine⟨[qK p w (zw.getD 10 zp)],rfl,Ob.mk ⟨by show((10:Nat)+((1:Nat):Int))*16<=_;decide,by show 10+1<=_;decide,dC,λ_ _=>rfl⟩ ?_⟩;exact Ob.mk (by kernel_rfl)<|Ar.fit dC<|⟨11,dC,zf [0,4],dC⟩
 | 11,_=>
  have hb:=jV (zw.getD 11 zp) dC;have t1:=z0 hb.1 h.1;have t2:=z0 hb.2 h.1;refine Br.y<|Dr.d<|Ar.fit (show -9223372036854775808<=(zw.getD 11 zp).x*w/\(zw.getD 11 zp).x*w<=9223372036854775807 by omega)<|zb.t (zM ((zw.getD 11 zp).x*w) 32768 ⟨oM,oM⟩ ⟨dC,dC⟩) ?_;rw[t1.2.2];refine Ar.fit (show -9223372036854775808<=(zw.getD 11 zp).y*w/\(zw.getD 11 zp).y*w<=9223372036854775807 by omega)<|zb.t (zM ((zw.getD 11 zp).y*w) 32768 ⟨oM,oM⟩ ⟨dC,dC⟩) ?_;rw[t2.2.2]
  refine zb.t (yc p ⟨zQ ((zw.getD 11 zp).x*w) 32768,zQ ((zw.getD 11 zp).y*w) 32768⟩ h.2.p45.s ⟨by dsimp only;omega,by dsimp only;omega⟩)<|⟨Pt,ptE,[qK p w (zw.getD 11 zp)],rfl,Ob.o0 ?_⟩;refine⟨[qK p w (zw.getD 11 zp)],rfl,Ob.mk ⟨by show((11:Nat)+((1:Nat):Int))*16<=_;decide,by show 11+1<=_;decide,dC,λ_ _=>rfl⟩ ?_⟩;exact Ob.mk (by kernel_rfl)<|Ar.fit dC<|⟨12,dC,zf [0,4],dC⟩
 | 12,_=>
  have hb:=jV (zw.getD 12 zp) dC;have t1:=z0 hb.1 h.1;have t2:=z0 hb.2 h.1;refine Br.y<|Dr.d<|Ar.fit (show -9223372036854775808<=(zw.getD 12 zp).x*w/\(zw.getD 12 zp).x*w<=9223372036854775807 by omega)<|zb.t (zM ((zw.getD 12 zp).x*w) 32768 ⟨oM,oM⟩ ⟨dC,dC⟩) ?_;rw[t1.2.2];refine Ar.fit (show -9223372036854775808<=(zw.getD 12 zp).y*w/\(zw.getD 12 zp).y*w<=9223372036854775807 by omega)<|zb.t (zM ((zw.getD 12 zp).y*w) 32768 ⟨oM,oM⟩ ⟨dC,dC⟩) ?_;rw[t2.2.2]
  refine zb.t (yc p ⟨zQ ((zw.getD 12 zp).x*w) 32768,zQ ((zw.getD 12 zp).y*w) 32768⟩ h.2.p45.s ⟨by dsimp only;omega,by dsimp only;omega⟩)<|⟨Pt,ptE,[qK p w (zw.getD 12 zp)],rfl,Ob.o0 ?_⟩;refine⟨[qK p w (zw.getD 12 zp)],rfl,Ob.mk ⟨by show((12:Nat)+((1:Nat):Int))*16<=_;decide,by show 12+1<=_;decide,dC,λ_ _=>rfl⟩ ?_⟩;exact Ob.mk (by kernel_rfl)<|Ar.fit dC<|⟨13,dC,zf [0,4],dC⟩
 | 13,_=>
  have hb:=jV (zw.getD 13 zp) dC;have t1:=z0 hb.1 h.1;have t2:=z0 hb.2 h.1;refine Br.y<|Dr.d<|Ar.fit (show -9223372036854775808<=(zw.getD 13 zp).x*w/\(zw.getD 13 zp).x*w<=9223372036854775807 by omega)<|zb.t (zM ((zw.getD 13 zp).x*w) 32768 ⟨oM,oM⟩ ⟨dC,dC⟩) ?_;rw[t1.2.2];refine Ar.fit (show -9223372036854775808<=(zw.getD 13 zp).y*w/\(zw.getD 13 zp).y*w<=9223372036854775807 by omega)<|zb.t (zM ((zw.getD 13 zp).y*w) 32768 ⟨oM,oM⟩ ⟨dC,dC⟩) ?_;rw[t2.2.2]
  refine zb.t (yc p ⟨zQ ((zw.getD 13 zp).x*w) 32768,zQ ((zw.getD 13 zp).y*w) 32768⟩ h.2.p45.s ⟨by dsimp only;omega,by dsimp only;omega⟩)<|⟨Pt,ptE,[qK p w (zw.getD 13 zp)],rfl,Ob.o0 ?_⟩;refine⟨[qK p w (zw.getD 13 zp)],rfl,Ob.mk ⟨by show((13:Nat)+((1:Nat):Int))*16<=_;decide,by show 13+1<=_;decide,dC,λ_ _=>rfl⟩ ?_⟩;exact Ob.mk (by kernel_rfl)<|Ar.fit dC<|⟨14,dC,zf [0,4],dC⟩
 | 14,_=>
  have hb:=jV (zw.getD 14 zp) dC;have t1:=z0 hb.1 h.1;have t2:=z0 hb.2 h.1;refine Br.y<|Dr.d<|Ar.fit (show -9223372036854775808<=(zw.getD 14 zp).x*w/\(zw.getD 14 zp).x*w<=9223372036854775807 by omega)<|zb.t (zM ((zw.getD 14 zp).x*w) 32768 ⟨oM,oM⟩ ⟨dC,dC⟩) ?_;rw[t1.2.2];refine Ar.fit (show -9223372036854775808<=(zw.getD 14 zp).y*w/\(zw.getD 14 zp).y*w<=9223372036854775807 by omega)<|zb.t (zM ((zw.getD 14 zp).y*w) 32768 ⟨oM,oM⟩ ⟨dC,dC⟩) ?_;rw[t2.2.2]
  refine zb.t (yc p ⟨zQ ((zw.getD 14 zp).x*w) 32768,zQ ((zw.getD 14 zp).y*w) 32768⟩ h.2.p45.s ⟨by dsimp only;omega,by dsimp only;omega⟩)<|⟨Pt,ptE,[qK p w (zw.getD 14 zp)],rfl,Ob.o0 ?_⟩;refine⟨[qK p w (zw.getD 14 zp)],rfl,Ob.mk ⟨by show((14:Nat)+((1:Nat):Int))*16<=_;decide,by show 14+1<=_;decide,dC,λ_ _=>rfl⟩ ?_⟩;exact Ob.mk (by kernel_rfl)<|Ar.fit dC<|⟨15,dC,zf [0,4],dC⟩
 | 15,_=>
  have hb:=jV (zw.getD 15 zp) dC;have t1:=z0 hb.1 h.1;have t2:=z0 hb.2 h.1;refine Br.y<|Dr.d<|Ar.fit (show -9223372036854775808<=(zw.getD 15 zp).x*w/\(zw.getD 15 zp).x*w<=9223372036854775807 by omega)<|zb.t (zM ((zw.getD 15 zp).x*w) 32768 ⟨oM,oM⟩ ⟨dC,dC⟩) ?_;rw[t1.2.2];refine Ar.fit (show -9223372036854775808<=(zw.getD 15 zp).y*w/\(zw.getD 15 zp).y*w<=9223372036854775807 by omega)<|zb.t (zM ((zw.getD 15 zp).y*w) 32768 ⟨oM,oM⟩ ⟨dC,dC⟩) ?_;rw[t2.2.2]
  refine zb.t (yc p ⟨zQ ((zw.getD 15 zp).x*w) 32768,zQ ((zw.getD 15 zp).y*w) 32768⟩ h.2.p45.s ⟨by dsimp only;omega,by dsimp only;omega⟩)<|⟨Pt,ptE,[qK p w (zw.getD 15 zp)],rfl,Ob.o0 ?_⟩;refine⟨[qK p w (zw.getD 15 zp)],rfl,Ob.mk ⟨by show((15:Nat)+((1:Nat):Int))*16<=_;decide,by show 15+1<=_;decide,dC,λ_ _=>rfl⟩ ?_⟩;exact Ob.mk (by kernel_rfl)<|Ar.fit dC<|⟨16,dC,zf [0,4],dC⟩
 | 16,_=>
  refine⟨λh=>absurd h dC,λ_=>?_⟩;refine zb.see 1 _ (za3 (zw.map (qK p w)) (by show((16:Nat):Int)<=_;decide)) rfl rfl rfl<|z9 (show kG (zw.map (qK p w))=vA p w from ?_);unfold vA;rw[if_neg (λk=>k h)];rfl
 | _+17,hi=>exact absurd hi oM
theorem zen(p q:Pt)(hp:S50 p.x/\S50 p.y)(hq:S50 q.x/\S50 q.y):CG0 363 [.agg (ptE p),.agg (ptE q)] [] (.agg (ptE (zz p q))) []:=by
 refine zc Tryz.func363 ?_;(iterate 2 refine Ar.o ?_);exact .refl
theorem znh(r:List Pt):CG0 361 [.sl ptE r] [] (.sl zk (kQ r)) []:=by
 refine zc Tryz.func361 ?_;intro hl1;refine⟨λh=>?_,λh=>?_⟩
 ·have e:kQ r=[]:=by unfold kQ;rw[if_pos (Xn (by have h:(r.length:Int)=0:=h;omega))]
  rw[e];exact zD
 ·refine⟨List Pt,zk,[r],rfl,Ob.o0 ?_⟩;refine z9 (show[r]=kQ r from ?_);unfold kQ;rw[if_neg (λe=>h (by rw[e];rfl))]
theorem zww(a b:Int)(ha:0<=a/\a < 18446744073709551616)(hb:0<=b/\b < 18446744073709551616):
  CG0 201 [u64 a,u64 b] [] (.tup [u64 (a*b / 18446744073709551616),u64 (a*b % 18446744073709551616)]) []:=by
 obtain⟨x,rfl⟩:=QU ha.1;obtain⟨y,rfl⟩:=QU hb.1;have c:=zsa x y oM oM;have e1:((x*y / 18446744073709551616:Nat):Int)=(x:Int)*y / 18446744073709551616:=by rw[JP,X0];rfl
 have e2:((x*y % 18446744073709551616:Nat):Int)=(x:Int)*y % 18446744073709551616:=by rw[Ja,X0];rfl
 rw[e1,e2]at c;exact c
variable{p:Pt}{q:Pt}
theorem zhg(hp:zr p)(hq:zr q):zjR (zz p q):=by
 unfold zr at hp hq;show(-2097152<=p.x+q.x/\p.x+q.x<=2097152)/\(-2097152<=p.y+q.y/\p.y+q.y<=2097152);omega
theorem zjT(hp:zr p)(hq:zr q):addP p q=zz p q:=by
 unfold addP;rw[zeh hp,zeh hq]
def tipE(o:Pt×Bool):SV:=.tup [.agg (ptE o.1),pr (o.2=true)]
theorem ue{o:Pt×Bool}{n:Pt}{b:Bool}(h:o=(n,b)):LE (.tup [.agg (ptE n),bl b]) (tipE o):=by
 subst h;exact zI .refl zr3
theorem zb0{x w:Int}(hx: -2097152<=x/\x<=2097152)(hw:kr w):(-34359738368<=x*w/\x*w<=34359738368)/\(-562949953421312<=x*w*w/\x*w*w<=562949953421312)/\(1<=w*w/\w*w<=268435456):=by
 unfold kr at hw;have h1:=jx (A:=2097152) (B:=16384) (a:=x) (b:=w) oM oM;have h2:=jx (A:=34359738368) (B:=16384) (a:=x*w) (b:=w) oM oM;have h3:=jx (A:=16384) (B:=16384) (a:=w) (b:=w) oM oM;have h4:=QW (show 0 < w by omega) (show 0 < w by omega);omega
theorem zni(x w q:Int)(hx: -2097152<=x/\x<=2097152)(hw:kr w)(hq:0<=q/\q<=8796093022208):CG0 392 [i64 x,.ptr [i64 w],.ptr [i64 q]] [] (i64 (zQ (x*w*w) (2*q))) []:=by
 have h:=zb0 hx hw;refine zc Tryz.func392 ?_;(iterate 3 refine Ar.o ?_);exact zb.t (zM (x*w*w) (2*q) ⟨oM,oM⟩ ⟨oM,oM⟩)<|zi (uM oM)
theorem p_tip(n m:Pt)(w lim:Int):CG0 364 [.agg (ptE n),.agg (ptE m),i64 w,i64 lim] [] (tipE (uZ n m w lim)) []:=by
 refine zc Tryz.func364 ?_;have bad:¬(zr n/\zr m/\kr w/\256<=lim/\lim<=65536)->uZ n m w lim=(zp,false):=λh=>by unfold uZ;rw[if_pos h]
 refine zb.t (qg n)<|⟨λa1=>ue (bad (λh=>a1 h.1)),λa1=>?_⟩;refine zb.t (qg m)<|⟨λa2=>ue (bad (λh=>a2 h.2.1)),λa2=>?_⟩;refine zb.t (zsz w)<|⟨λa3=>ue (bad (λh=>a3 h.2.2.1)),λa3=>?_⟩;refine⟨λa4=>ue (bad (λh=>by have a4:lim < 256:=a4;omega)),λa4=>?_⟩;refine⟨λa5=>ue (bad (λh=>by have a5:65536 < lim:=a5;omega)),λa5=>?_⟩;have hn:=Xa.1 a1;have hm:=Xa.1 a2;have hw:=Xa.1 a3
 have hl:256<=lim/\lim<=65536:=⟨by have a4:¬lim < 256:=a4;omega,by have a5:¬65536 < lim:=a5;omega⟩;have hs:=zhg hn hm
 have e:uZ n m w lim=if (zz n m).x*(zz n m).x+(zz n m).y*(zz n m).y=0∨lim*lim*((zz n m).x*(zz n m).x+(zz n m).y*(zz n m).y) < 256*w*(256*w) then(zp,false)
   else(⟨zQ ((zz n m).x*w*w) (2*((zz n m).x*(zz n m).x+(zz n m).y*(zz n m).y)),zQ ((zz n m).y*w*w) (2*((zz n m).x*(zz n m).x+(zz n m).y*(zz n m).y))⟩,true):=by
  unfold uZ;rw[if_neg (λk=>k ⟨hn,hm,hw,hl⟩)]
 refine zb.t (zen n m hn.p45.s hm.p45.s) ?_;generalize zz n m=s at*;have s1:=jx (A:=2097152) (B:=2097152) (a:=s.x) (b:=s.x) hs.1 hs.1;have s2:=jx (A:=2097152) (B:=2097152) (a:=s.y) (b:=s.y) hs.2 hs.2;have p1:=jg s.x;have p2:=jg s.y;have l1:=jx (A:=65536) (B:=65536) (a:=lim) (b:=lim) oM oM;have l2:=jg lim;have t:=zb0 hs.1 hw;have w0:=hw;unfold kr at w0;(iterate 6 refine Ar.o ?_);have hq:0<=s.x*s.x+s.y*s.y/\s.x*s.x+s.y*s.y<=8796093022208:=oM
 refine zb.t (zww (lim*lim) (s.x*s.x+s.y*s.y) oM oM)<|⟨λb1=>?_,λb1=>?_⟩
 ·have b1:s.x*s.x+s.y*s.y=0:=b1;exact ue (e.trans (if_pos (.inl b1)))
 have b1:¬s.x*s.x+s.y*s.y=0:=b1;have hww:256*w*256*w=256*w*(256*w):=by grind
 have hP:0<=lim*lim*(s.x*s.x+s.y*s.y):=XG oM oM
 have go:¬lim*lim*(s.x*s.x+s.y*s.y) < 256*w*(256*w)->uZ n m w lim=(⟨zQ (s.x*w*w) (2*(s.x*s.x+s.y*s.y)),zQ (s.y*w*w) (2*(s.x*s.x+s.y*s.y))⟩,true):=λh=>
  e.trans (if_neg (λk=>k.elim b1 h))
 have w3:256*w*256*w=65536*(w*w):=by grind
 refine⟨λb2=>?_,λb2=>?_⟩
 ·have b2:lim*lim*(s.x*s.x+s.y*s.y) / 18446744073709551616=0:=b2;(iterate 4 refine Ar.o ?_);refine⟨λb3=>?_,λb3=>?_⟩
  ·have b3:lim*lim*(s.x*s.x+s.y*s.y) % 18446744073709551616 < 256*w*256*w:=b3;exact ue (e.trans (if_pos (.inr (by generalize lim*lim*(s.x*s.x+s.y*s.y)=P at*;omega))))
  ·have b3:¬lim*lim*(s.x*s.x+s.y*s.y) % 18446744073709551616 < 256*w*256*w:=b3;exact Dr.k<|zb.t (zni s.x w (s.x*s.x+s.y*s.y) hs.1 hw hq)<|zb.t (zni s.y w (s.x*s.x+s.y*s.y) hs.2 hw hq)<|ue (go (by generalize lim*lim*(s.x*s.x+s.y*s.y)=P at*;omega))
 ·have b2:¬lim*lim*(s.x*s.x+s.y*s.y) / 18446744073709551616=0:=b2;exact Dr.k<|zb.t (zni s.x w (s.x*s.x+s.y*s.y) hs.1 hw hq)<|zb.t (zni s.y w (s.x*s.x+s.y*s.y) hs.2 hw hq)<|ue (go (by generalize lim*lim*(s.x*s.x+s.y*s.y)=P at*;omega))
theorem r_tip(n m:Pt)(w lim:Int):CG0 372 [.agg (ptE n),.agg (ptE m),i64 w,i64 lim] [] (tipE (uZ n m w lim)) []:=by
 refine zc Tryz.func372 ?_;have bad:¬(zr n/\zr m/\kr w/\256<=lim/\lim<=65536)->uZ n m w lim=(zp,false):=λh=>by unfold uZ;rw[if_pos h]
 refine zb.t (kH n)<|⟨λa1=>ue (bad (λh=>a1 h.1)),λa1=>?_⟩;refine zb.t (kH m)<|⟨λa2=>ue (bad (λh=>a2 h.2.1)),λa2=>?_⟩;refine zb.t (zsA w)<|⟨λa3=>ue (bad (λh=>a3 h.2.2.1)),λa3=>?_⟩;refine⟨λa4=>ue (bad (λh=>by have a4:lim < 256:=a4;omega)),λa4=>?_⟩;refine⟨λa5=>ue (bad (λh=>by have a5:65536 < lim:=a5;omega)),λa5=>?_⟩;have hn:=Xa.1 a1;have hm:=Xa.1 a2;have hw:=Xa.1 a3
 have hl:256<=lim/\lim<=65536:=⟨by have a4:¬lim < 256:=a4;omega,by have a5:¬65536 < lim:=a5;omega⟩;have hs:=zhg hn hm
 have e:uZ n m w lim=if (zz n m).x*(zz n m).x+(zz n m).y*(zz n m).y=0∨lim*lim*((zz n m).x*(zz n m).x+(zz n m).y*(zz n m).y) < 256*w*(256*w) then(zp,false)
   else(⟨zQ ((zz n m).x*w*w) (2*((zz n m).x*(zz n m).x+(zz n m).y*(zz n m).y)),zQ ((zz n m).y*w*w) (2*((zz n m).x*(zz n m).x+(zz n m).y*(zz n m).y))⟩,true):=by
  unfold uZ;rw[if_neg (λk=>k ⟨hn,hm,hw,hl⟩)]
 have ca:=zwh n m;rw[zjT hn hm]at ca;refine zb.t ca ?_;generalize zz n m=s at*;have s1:=jx (A:=2097152) (B:=2097152) (a:=s.x) (b:=s.x) hs.1 hs.1;have s2:=jx (A:=2097152) (B:=2097152) (a:=s.y) (b:=s.y) hs.2 hs.2;have p1:=jg s.x;have p2:=jg s.y;have l1:=jx (A:=65536) (B:=65536) (a:=lim) (b:=lim) oM oM;have l2:=jg lim;have t:=zb0 hs.1 hw;have t':=zb0 hs.2 hw;have w0:=hw;unfold kr at w0;(iterate 3 refine Ar.o ?_);have hq:0<=s.x*s.x+s.y*s.y/\s.x*s.x+s.y*s.y<=8796093022208:=oM;refine Ar.o ?_
 refine⟨λb1=>?_,λb1=>?_⟩
 ·have b1:s.x*s.x+s.y*s.y=0:=b1;exact ue (e.trans (if_pos (.inl b1)))
 have b1:¬s.x*s.x+s.y*s.y=0:=b1;have w3:256*w*(256*w)=65536*(w*w):=by grind
 have hs':=hs;unfold zjR at hs';have z1:=qO (n:=256*w*(256*w)) ⟨oM,oM⟩;have z2:=qO (n:=lim*lim) ⟨oM,oM⟩;have z3:=qO (n:=s.x*s.x+s.y*s.y) ⟨oM,oM⟩;have z4:=kM (lim*lim) (s.x*s.x+s.y*s.y);unfold jp at z1 z2 z3 z4;refine Ar.o<|zb.t (jO (256*w*(256*w)) ⟨oM,oM⟩)<|Ar.o<|zb.t (jO (lim*lim) ⟨oM,oM⟩)<|zb.t (jO (s.x*s.x+s.y*s.y) ⟨oM,oM⟩)<|zb.t (zct (ofZ (lim*lim)) (ofZ (s.x*s.x+s.y*s.y)) (by rw[jS];omega) (by rw[jS];omega)) ?_;rw[zV,zV]
 refine zb.t (zv9 (ofZ (256*w*(256*w))) (ofZ (lim*lim*(s.x*s.x+s.y*s.y))) (by rw[jS];omega) (by rw[jS];omega)) ?_;rw[zV,zV]
 have hsg:0 < (256*w*(256*w) - lim*lim*(s.x*s.x+s.y*s.y)).sign↔lim*lim*(s.x*s.x+s.y*s.y) < 256*w*(256*w):=by
  rw[Int.sign_pos_iff];omega
 refine⟨λb2=>?_,λb2=>?_⟩
 ·exact ue (e.trans (if_pos (.inr (hsg.1 b2))))
 have go:uZ n m w lim=(⟨y4 (zQ (s.x*(w*w)) (2*(s.x*s.x+s.y*s.y))),y4 (zQ (s.y*(w*w)) (2*(s.x*s.x+s.y*s.y)))⟩,true):=by
  rw[← JK,← JK,uM oM,uM oM];exact e.trans (if_neg (λk=>k.elim b1 (λh=>b2 (hsg.2 h))))
 (iterate 2 refine Ar.o ?_);refine zb.t (zg2 s.x (w*w) (2*(s.x*s.x+s.y*s.y)) ⟨oM,oM⟩ ⟨oM,oM⟩ ⟨oM,oM⟩) ?_;(iterate 2 refine Ar.o ?_);exact zb.t (zg2 s.y (w*w) (2*(s.x*s.x+s.y*s.y)) ⟨oM,oM⟩ ⟨oM,oM⟩ ⟨oM,oM⟩)<|ue go
variable{α:Type}
theorem kS{p:Prop}[Decidable p](h:p){a b:α}:(if ¬p then a else b)=b:=if_neg (λk=>k h)
theorem jc{n:Int}(h:n=0){a b:α}:(if n≠0 then a else b)=b:=if_neg (λk=>k h)
def yE(q:List Pt)(x:Pt):List Pt:=if q.getLast?=some x then q else q++[x]
def kz(q more:List Pt):List Pt:=more.foldl yE q
def kO(p:Pt)(s:Sg)(tol:Int):List Pt×Int:=if s.v=3 then zcU p s.a s.b tol else if s.v=4 then zcV p s.a s.b s.c tol else([s.a],0)
def qP(l:List Pt):Pt:=l.getLastD zp
def za4(p:Pl)(s:Sg)(tol:Int):Pl×Int:=
 if s.v=5 then(⟨qi p.pts,true⟩,0)
 else if (kO (qP p.pts) s tol).2≠0 then(p,(kO (qP p.pts) s tol).2)
 else(⟨kz p.pts (kO (qP p.pts) s tol).1,p.cl⟩,0)
def uf(tol:Int)(st:List Pl×Int)(s:Sg):List Pl×Int:=
 if st.2≠0 then([],st.2)
 else if s.v=1 then(st.1++[⟨[s.a],false⟩],0)
 else if (za4 (st.1.getLastD ⟨[],false⟩) s tol).2≠0 then([],(za4 (st.1.getLastD ⟨[],false⟩) s tol).2)
 else(st.1.dropLast++[(za4 (st.1.getLastD ⟨[],false⟩) s tol).1],0)
variable{tol:Int}{S:List Pl}
theorem zgc{s:Sg}:uf tol (S,0) s=
  if s.v=1 then(S++[⟨[s.a],false⟩],0)
  else if (za4 (S.getLastD ⟨[],false⟩) s tol).2≠0 then([],(za4 (S.getLastD ⟨[],false⟩) s tol).2)
  else(S.dropLast++[(za4 (S.getLastD ⟨[],false⟩) s tol).1],0):=if_neg (λk:(0:Int)≠0=>k rfl)
def jk(l:List Sg)(tol:Int):List Pl×Int:=l.foldl (uf tol) ([],0)
def jI(l:List Pl):Nat:=(l.map λp=>p.pts.length).sum
def zeO(tol:Int):Prop:=1<=tol/\tol<=256
instance (tol:Int):Decidable (zeO tol):=inferInstanceAs (Decidable (_/\_))
def z5(l:List Sg)(tol:Int):List Pl×Int:=
 if ¬jn l then([],10) else if ¬zeO tol then([],2) else if (jk l tol).2≠0 then([],(jk l tol).2)
 else if 4096 < jI (jk l tol).1 then([],5) else((jk l tol).1,0)
def inB(lo hi p:Pt):Prop:=(lo.x<=p.x/\p.x<=hi.x)/\(lo.y<=p.y/\p.y<=hi.y)
theorem zsB{a b lo hi:Int}(hb:0 < b)(h1:lo*b<=a)(h2:a<=hi*b):lo<=zdx a b/\zdx a b<=hi:=by
 unfold zdx;constructor
 ·rw[Int.le_ediv_iff_mul_le oM];have:lo*(2*b)=2*(lo*b):=by grind
  omega
 ·have h3:(2*a+b) / (2*b) < hi+1:=by
   rw[Int.ediv_lt_iff_lt_mul oM];have:(hi+1)*(2*b)=2*(hi*b)+2*b:=by grind
   omega
  omega
variable{i:Int}
theorem zAb{n a b c lo hi:Int}(hn:1<=n)(hi0:0<=i)(hin:i<=n)(ha:lo<=a/\a<=hi)(hb:lo<=b/\b<=hi)(hc:lo<=c/\c<=hi):lo<=q1 i n a b c/\q1 i n a b c<=hi:=by
 unfold q1;have w0:0<=(n - i)*(n - i):=XG oM oM;have w1:0<=2*i*(n - i):=XG oM oM;have w2:0<=i*i:=XG oM oM;have e:n*n=(n - i)*(n - i)+2*i*(n - i)+i*i:=by grind
 have g1:=XG w0 (show 0<=a - lo by omega);have g2:=XG w1 (show 0<=b - lo by omega);have g3:=XG w2 (show 0<=c - lo by omega);have g4:=XG w0 (show 0<=hi - a by omega);have g5:=XG w1 (show 0<=hi - b by omega);have g6:=XG w2 (show 0<=hi - c by omega);refine zsB (QW oM oM) ?_ ?_
 ·rw[e];grind
 ·rw[e];grind
theorem zAc{n a b c d lo hi:Int}(hn:1<=n)(hi0:0<=i)(hin:i<=n)(ha:lo<=a/\a<=hi)(hb:lo<=b/\b<=hi)(hc:lo<=c/\c<=hi)(hd:lo<=d/\d<=hi):
  lo<=c1 i n a b c d/\c1 i n a b c d<=hi:=by
 unfold c1;have w0:0<=(n - i)*(n - i)*(n - i):=XG (XG oM oM) oM;have w1:0<=3*i*(n - i)*(n - i):=XG (XG oM oM) oM;have w2:0<=3*i*i*(n - i):=XG (XG oM oM) oM;have w3:0<=i*i*i:=XG (XG oM oM) oM;have e:n*n*n=(n - i)*(n - i)*(n - i)+3*i*(n - i)*(n - i)+3*i*i*(n - i)+i*i*i:=by grind
 have g1:=XG w0 (show 0<=a - lo by omega);have g2:=XG w1 (show 0<=b - lo by omega);have g3:=XG w2 (show 0<=c - lo by omega);have g4:=XG w3 (show 0<=d - lo by omega);have k1:=XG w0 (show 0<=hi - a by omega);have k2:=XG w1 (show 0<=hi - b by omega);have k3:=XG w2 (show 0<=hi - c by omega);have k4:=XG w3 (show 0<=hi - d by omega);refine zsB (QW (QW oM oM) oM) ?_ ?_
 ·rw[e];grind
 ·rw[e];grind
theorem zhY(need tol:Int):∀(k n:Nat),1<=n->(yD need tol k n).2=0->1<=(yD need tol k n).1/\(yD need tol k n).1<=(n+k:Nat) - 1
 | 0,n,_,h=>by cases h
 | k+1,n,hn,h=>by
  unfold yD at h ⊢
  split
  ·exact⟨by dsimp only;omega,by dsimp only;omega⟩
  ·rename_i c;rw[if_neg c]at h;have:=zhY need tol k (n+1) oM h;omega
variable{l:List Pt}
theorem yS{need:Int}(h:(kZ need tol l).2=0):(1<=(kZ need tol l).1/\(kZ need tol l).1<=64)/\zeO tol/\(∀p∈l,zr p)/\kZ need tol l=yD need tol 64 1:=by
 unfold kZ at h ⊢
 by_cases h1:¬(1<=tol/\tol<=256)
 ·rw[if_pos h1]at h;exact absurd h dC
 rw[if_neg h1]at h ⊢
 by_cases h2:¬∀p∈l,zr p
 ·rw[if_pos h2]at h;exact absurd h dC
 rw[if_neg h2]at h ⊢;have:=zhY need tol 64 1 dC h;exact⟨oM,Xa.1 h1,Xa.1 h2,rfl⟩
theorem zpf{f:Int->Pt}{n:Nat}(h:p∈zbZ f n):∃i:Nat,i < n/\p=f ((i:Int)+1):=by
 unfold zbZ at h;obtain⟨i,hi,rfl⟩:=XY.1 h;exact⟨i,Kh.1 hi,rfl⟩
variable{lo:Pt}{hi:Pt}{a:Pt}{b:Pt}{c:Pt}
theorem ztY{n:Int}(hn:1<=n/\n<=64)(hi':0<=i/\i<=n)(ho:∀p∈[a,b,c],zr p)(h:∀p∈[a,b,c],inB lo hi p):inB lo hi (yV a b c i n):=by
 unfold yV;rw[if_neg (λk=>k ⟨ho,hn.1,hn.2,hi'.1,hi'.2⟩)];have ha:=h a (by simp);have hb:=h b (by simp);have hc:=h c (by simp);exact⟨zAb hn.1 hi'.1 hi'.2 ha.1 hb.1 hc.1,zAb hn.1 hi'.1 hi'.2 ha.2 hb.2 hc.2⟩
theorem ztZ{d:Pt}{n:Int}(hn:1<=n/\n<=64)(hi':0<=i/\i<=n)(ho:∀p∈[a,b,c,d],zr p)(h:∀p∈[a,b,c,d],inB lo hi p):inB lo hi (yW a b c d i n):=by
 unfold yW;rw[if_neg (λk=>k ⟨ho,hn.1,hn.2,hi'.1,hi'.2⟩)];have ha:=h a (by simp);have hb:=h b (by simp);have hc:=h c (by simp);have hd:=h d (by simp);exact⟨zAc hn.1 hi'.1 hi'.2 ha.1 hb.1 hc.1 hd.1,zAc hn.1 hi'.1 hi'.2 ha.2 hb.2 hc.2 hd.2⟩
theorem zwx(h0:(zcU a b c tol).2=0)(h:∀p∈[a,b,c],inB lo hi p):∀p∈(zcU a b c tol).1,inB lo hi p:=by
 unfold zcU at h0 ⊢
 split
 ·intro p hp;cases hp
 rename_i h1;have h1:=Xa.1 h1;have ok:=yS h1;intro p hp;obtain⟨i,hi,rfl⟩:=zpf (show p∈zbZ (λi=>yV a b c i (j7 a b c tol).1) (j7 a b c tol).1.toNat from hp);unfold j7 at hi ⊢;exact ztY (by unfold j7 at*;omega) (by unfold j7 at*;omega) ok.2.2.1 h
theorem zwy{d:Pt}(h0:(zcV a b c d tol).2=0)(h:∀p∈[a,b,c,d],inB lo hi p):∀p∈(zcV a b c d tol).1,inB lo hi p:=by
 unfold zcV at h0 ⊢
 split
 ·intro p hp;cases hp
 rename_i h1;have h1:=Xa.1 h1;have ok:=yS h1;intro p hp;obtain⟨i,hi,rfl⟩:=zpf (show p∈zbZ (λi=>yW a b c d i (j8 a b c d tol).1) (j8 a b c d tol).1.toNat from hp);unfold j8 at hi ⊢;exact ztZ (by unfold j8 at*;omega) (by unfold j8 at*;omega) ok.2.2.1 h
theorem zfa:∀{l:List Pt} {x:Pt},jD l->l.getLast?≠some x->jD (l++[x])
 | [],x,_,_=>⟨λ_ h=>(by cases h),trivial⟩
 | [p],x,_,h=>⟨λq hq e=>h (by cases hq;rw[e];rfl),⟨λ_ h=>(by cases h),trivial⟩⟩
 | p::q::r,x,h,hl=>⟨λz hz=>h.1 z hz,zfa (l:=q::r) h.2 (by rwa [JQ]at hl)⟩
theorem zt0(h:jD l)(x:Pt):jD (yE l x):=by
 unfold yE
 split
 ·exact h
 ·rename_i k;exact zfa h k
theorem zfb:∀(more:List Pt) {l:List Pt},jD l->jD (kz l more)
 | [],_,h=>h
 | x::r,l,h=>zfb r (zt0 h x)
theorem zjU:∀{l:List Pt},jD l->jD l.dropLast
 | [],_=>trivial
 | [p],_=>trivial
 | [p,q],h=>⟨λ_ h=>(by cases h),trivial⟩
 | p::q::r::s,h=>⟨λz hz=>h.1 z hz,zjU (l:=q::r::s) h.2⟩
theorem za5(h:jD l):jD (qi l):=by
 unfold qi;split
 ·exact zjU h
 ·exact h
theorem zyN{x:Pt}(h:p∈yE l x):p∈l∨p=x:=by
 unfold yE at h
 split at h
 ·exact .inl h
 ·simpa using h
theorem zpg:∀(more:List Pt) {l:List Pt} {p:Pt},p∈kz l more->p∈l∨p∈more
 | [],_,_,h=>.inl h
 | x::r,l,p,h=>by
  rcases zpg r (l:=yE l x) h with h | h
  ·exact(zyN h).imp id λe=>by rw[e];exact .head _
  ·exact .inr (.tail _ h)
theorem zph(h:p∈qi l):p∈l:=by
 unfold qi at h
 split at h
 ·exact List.dropLast_subset l h
 ·exact h
theorem zBh(x:Pt):yE l x≠[]:=by
 unfold yE;split
 ·rename_i h;intro e;rw[e]at h;cases h
 ·simp
theorem znj:∀(more:List Pt) {l:List Pt},l≠[]->kz l more≠[]
 | [],_,h=>h
 | x::r,l,_=>znj r (zBh x)
theorem zyO(h:l≠[]):qi l≠[]:=by
 unfold qi;split
 ·rename_i k;intro e;have:l.dropLast.length=0:=by rw[e];rfl
  rw[QD]at this;omega
 ·exact h
theorem zpi(l:List Pt)(x:Pt):(yE l x).getLast?=some x:=by
 unfold yE;split
 ·assumption
 ·simp
theorem zlI:∀(more:List Pt) (l:List Pt),more≠[]->(kz l more).getLast?=more.getLast?
 | [],_,h=>absurd rfl h
 | [x],l,_=>zpi l x
 | x::y::r,l,_=>by
  show(kz (yE l x) (y::r)).getLast?=_;rw[zlI (y::r) _ (by simp),JQ]
theorem zlJ{l:List Pt}(h:jD l)(h1:1 < (qi l).length):(qi l).getLast?≠(qi l).head?:=by
 unfold qi at h1 ⊢
 split
 ·rename_i k;rw[if_pos k]at h1;rw[QD]at h1;intro e
  -- l=d++[z]
  obtain⟨d,z,rfl⟩:∃d z,l=d++[z]:=⟨l.dropLast,l.getLast (by intro h;rw[h]at k;simp at k),(Jn _).symm⟩;rw[Ji]at e;simp at h1;obtain⟨d',y,rfl⟩:∃d' y,d=d'++[y]:=⟨d.dropLast,d.getLast (by intro h;rw[h]at h1;simp at h1),(Jn _).symm⟩;have e1:(d'++[y]++[z]).head?=(d'++[y]).head?:=by cases d' <;> rfl
  rw[e1,← e]at k;have e2:=k.2;rw[Jk,Jk]at e2;have e3:z=y:=Xj e2;clear e e1 k h1 e2
  induction d' with
  | nil=>exact h.1 z rfl e3.symm
  | cons w d' ih=>exact ih h.2
 ·rename_i k;rw[if_neg k]at h1;intro e;exact k ⟨h1,e⟩
def InvP(lo hi:Pt)(S:List Pl)(last:Int):Prop:=
 (S=[]/\last=5∨∃cl p,S=cl++[p]/\(p.cl=true↔last=5))/\∀q∈S,q.pts≠[]/\jD q.pts/\∀z∈q.pts,inB lo hi z
theorem zt1(h:l≠[]):qP l∈l:=by
 unfold qP;rw[QK,List.getLast?_eq_some_getLast h];exact List.getLast_mem h
theorem zrd{s:Sg}(h:s.v=1∨s.v=2):kN s=[s.a]:=by
 unfold kN
 rcases h with h | h <;> rw[h] <;> rfl
theorem zBi{s:Sg}(h:s.v=3):kN s=[s.a,s.b]:=by unfold kN;rw[h];rfl
theorem zBj{s:Sg}(h:s.v=4):kN s=[s.a,s.b,s.c]:=by unfold kN;rw[h];rfl
theorem zBk{s:Sg}(he:0<=nm s.v)(h5:s.v≠5)(hp:inB lo hi p)(hs:∀q∈kN s,inB lo hi q)(h0:(kO p s tol).2=0):∀q∈(kO p s tol).1,inB lo hi q:=by
 unfold kO at h0 ⊢
 rcases zlC he with h | h | h | h | h
 ·rw[if_neg oM,if_neg oM]at h0 ⊢;intro q hq;rw[zrd (.inl h)]at hs;exact hs q hq
 ·rw[if_neg oM,if_neg oM]at h0 ⊢;intro q hq;rw[zrd (.inr h)]at hs;exact hs q hq
 ·rw[if_pos h]at h0 ⊢;rw[zBi h]at hs
  exact zwx h0 λq hq=>by
   cases hq with
   | head=>exact hp
   | tail _ hq=>exact hs q hq
 ·rw[if_neg oM,if_pos h]at h0 ⊢;rw[zBj h]at hs
  exact zwy h0 λq hq=>by
   cases hq with
   | head=>exact hp
   | tail _ hq=>exact hs q hq
 ·exact absurd h h5
variable{last:Int}{x:Sg}
theorem zwz(h:InvP lo hi S last)(he:jQ last x=0)(hx:∀p∈kN x,inB lo hi p)(h0:(uf tol (S,0) x).2=0):InvP lo hi (uf tol (S,0) x).1 x.v:=by
 obtain⟨e1,e2,e3⟩:=u1.1 he;rw[zgc]at h0 ⊢
 by_cases h1:x.v=1
 ·rw[if_pos h1]at h0 ⊢;refine⟨.inr ⟨S,_,rfl,⟨λk=>(by cases k),λk=>by omega⟩⟩,λq hq=>?_⟩
  rcases Xo.1 hq with hq | hq
  ·exact h.2 q hq
  ·have:=Xr.1 hq;subst this;refine⟨by simp,⟨λ_ h=>(by cases h),trivial⟩,λz hz=>?_⟩;have:=Xr.1 hz;subst this;exact hx _ (by rw[zrd (.inl h1)];exact .head _)
 rw[if_neg h1]at h0 ⊢;obtain⟨hl,hv⟩:=e2.resolve_left h1;obtain⟨cl,p,rfl,hc⟩:∃cl p,S=cl++[p]/\(p.cl=true↔last=5):=h.1.resolve_left (λk=>hl k.2);have eg:(cl++[p]).getLastD ⟨[],false⟩=p:=by simp
 rw[eg]at h0 ⊢
 by_cases h2:(za4 p x tol).2≠0
 ·rw[if_pos h2]at h0;exact absurd h0 h2
 rw[if_neg h2]at h0 ⊢;have h2:=Xa.1 h2;obtain⟨p1,p2,p3⟩:=h.2 p (by simp);rw[Ji]
 have hg:((za4 p x tol).1.cl=true↔x.v=5)/\(za4 p x tol).1.pts≠[]/\jD (za4 p x tol).1.pts/\∀z∈(za4 p x tol).1.pts,inB lo hi z:=by
  unfold za4 at h2 ⊢
  by_cases h5:x.v=5
  ·rw[if_pos h5];exact⟨⟨λ_=>h5,λ_=>rfl⟩,zyO p1,za5 p2,λz hz=>p3 z (zph hz)⟩
  rw[if_neg h5]at h2 ⊢
  by_cases h3:(kO (qP p.pts) x tol).2≠0
  ·rw[if_pos h3]at h2;exact absurd h2 h3
  rw[if_neg h3]at h2 ⊢;have h3:=Xa.1 h3;refine⟨⟨λk=>absurd (hc.1 k) hl,λk=>absurd k h5⟩,znj _ p1,zfb _ p2,λz hz=>?_⟩
  rcases zpg _ hz with hz | hz
  ·exact p3 z hz
  ·exact zBk e1 h5 (p3 _ (zt1 p1)) hx h3 z hz
 refine⟨.inr ⟨cl,_,rfl,hg.1⟩,λq hq=>?_⟩
 rcases Xo.1 hq with hq | hq
 ·exact h.2 q (Ql _ hq)
 ·have:=Xr.1 hq;subst this;exact hg.2
def zpj(last:Int)(l:List Sg)(i:Nat):Int:=if i=0 then last else(l[i - 1]?.map Sg.v).getD 0
theorem zjV{l:List Sg}{i:Nat}(h:l[i]? =some x):zpj last l (i+1)=x.v:=by
 unfold zpj;rw[if_neg oM,show i+1 - 1=i by omega,h];rfl
theorem zre:∀{l:List Sg} {last:Int} {i:Nat} {x:Sg},oks last l->l[i]? =some x->jQ (zpj last l i) x=0
 | [],_,i,_,_,h=>by simp at h
 | s::r,last,0,x,h,hx=>by cases hx;exact h.1
 | s::r,last,i+1,x,h,hx=>by
  have hx:r[i]? =some x:=hx;have:=zre h.2 hx
  cases i with
  | zero=>exact this
  | succ i=>exact this
theorem vM{l:List Sg}{tol:Int}{i:Nat}{x:Sg}(h:l[i]? =some x):jk (l.take (i+1)) tol=uf tol (jk (l.take i) tol) x:=by
 unfold jk;rw[Xm,h];simp[KP]
theorem zpk{tol:Int}:∀(r:List Sg) {st:List Pl×Int},st.2≠0->r.foldl (uf tol) ([],st.2)=([],st.2)
 | [],_,_=>rfl
 | x::r,st,h=>by
  rw[Qh];have:uf tol ([],st.2) x=([],st.2):=by unfold uf;rw[if_pos h]
  rw[this];exact zpk r (st:=st) h
theorem zwA{st:List Pl×Int}(h:(uf tol st x).2≠0):uf tol st x=([],(uf tol st x).2):=by
 unfold uf at h ⊢
 split
 ·rfl
 ·rename_i h0;rw[if_neg h0]at h
  split
  ·rename_i h1;rw[if_pos h1]at h;exact absurd rfl h
  ·rename_i h1;rw[if_neg h1]at h
   split
   ·rfl
   ·rename_i h2;rw[if_neg h2]at h;exact absurd rfl h
theorem zlK{l:List Sg}{i:Nat}(hx:l[i]? =some x)(h:(jk (l.take (i+1)) tol).2≠0):jk l tol=([],(jk (l.take (i+1)) tol).2):=by
 have e:jk l tol=(l.drop (i+1)).foldl (uf tol) (jk (l.take (i+1)) tol):=by
  unfold jk;rw[← KP,Kf]
 rw[e];rw[vM hx]at h ⊢;rw[zwA h];exact zpk _ (st:=uf tol (jk (l.take i) tol) x) h
theorem zjW{lo hi:Pt}{l:List Sg}{tol:Int}(hv:oks 5 l)(hb:∀p∈jh l,inB lo hi p):∀i,i<=l.length->(jk (l.take i) tol).2=0->InvP lo hi (jk (l.take i) tol).1 (zpj 5 l i)
 | 0,_,_=>⟨.inl ⟨rfl,rfl⟩,λq hq=>(by cases hq)⟩
 | i+1,hi',h=>by
  have hx:l[i]? =some l[i]:=Xb oM;rw[vM hx]at h ⊢
  by_cases h0:(jk (l.take i) tol).2=0
  ·have ih:=zjW hv hb i oM h0;rw[zjV hx];have e:jk (l.take i) tol=((jk (l.take i) tol).1,0):=by rw[← h0]
   rw[e]at h ⊢;exact zwz ih (zre hv hx) (λp hp=>hb p (Qt.2 ⟨_,KK _,hp⟩)) h
  ·unfold uf at h;rw[if_pos h0]at h;exact absurd h h0
def qD(d:List Int)(i:Nat):Int:=256*(d.take i).sum
def qI(d:List Int):Int:=256*d.sum
def qQ:List Int->Int->Nat->Nat×Int
 | [],_,_=>(0,0)
 | e::r,k,i=>if k < 256*e then(i,256*e - k) else qQ r (k - 256*e) (i+1)
def phD(pen:Pen)(t:Int):Int:=(t % qI pen.d+(256*pen.ph) % qI pen.d) % qI pen.d
def onD(pen:Pen)(t:Nat):Prop:=(qQ pen.d (phD pen t) 0).1 % 2=0
instance (pen:Pen) (t:Nat):Decidable (onD pen t):=inferInstanceAs (Decidable (_=_))
theorem yK(d:List Int):qD d d.length=qI d:=by unfold qD qI;rw[X9]
theorem yw{d:List Int}{i:Nat}{e:Int}(h:d[i]? =some e):qD d (i+1)=qD d i+256*e:=by
 unfold qD;rw[Xm,h];simp[QV]
theorem ut(d:List Int):qD d 0=0:=rfl
theorem zjX:∀{d:List Int},(∀n∈d,0<=n)->0<=d.sum
 | [],_=>dC
 | e::r,h=>by
  rw[Jf];have:=h e (.head _);have:=zjX (d:=r) λn hn=>h n (.tail _ hn)
  omega
theorem zwB:∀{d:List Int},(∀n∈d,n<=1048576)->d.sum<=1048576*(d.length:Int)
 | [],_=>dC
 | e::r,h=>by
  rw[Jf,Xl];have:=h e (.head _);have:=zwB (d:=r) λn hn=>h n (.tail _ hn)
  omega
theorem zhh{d:List Int}(h:∀n∈d,0<=n){i j:Nat}(hij:i<=j):qD d i<=qD d j:=by
 unfold qD
 have e:d.take j=d.take i++(d.take j).drop i:=by
  have:=(Kf i (d.take j)).symm
  rwa [Yf,KU hij]at this
 rw[e,Jo];have:=zjX (d:=(d.take j).drop i) λn hn=>h n (XC (Ko hn))
 omega
theorem zeo:∀{d:List Int} {i i0:Nat} {k e:Int},(∀n∈d,0<=n)->d[i]? =some e->qD d i<=k->k < qD d i+256*e->qQ d k i0=(i0+i,qD d i+256*e - k)
 | [],i,_,_,_,_,h,_,_=>by simp at h
 | a::r,0,i0,k,e,hn,h,h1,h2=>by
  cases h
  rw[ut] at*;unfold qQ;rw[if_pos oM];simp
 | a::r,i+1,i0,k,e,hn,h,h1,h2=>by
  have h:r[i]? =some e:=h;have e1:qD (a::r) (i+1)=256*a+qD r i:=by unfold qD;rw[Ki,Jf,QV]
  have hm:=zhh (d:=r) (λn hn'=>hn n (.tail _ hn')) (Xe i);rw[ut]at hm;rw[e1]at h1 h2 ⊢;unfold qQ;rw[if_neg oM,zeo (λn hn'=>hn n (.tail _ hn')) h oM oM];exact Prod.ext (by dsimp only;omega) (by dsimp only;omega)
theorem znk:∀{d:List Int} {k:Int},(∀n∈d,0<=n)->0<=k->k < qI d->∃i e,d[i]? =some e/\qD d i<=k/\k < qD d i+256*e
 | [],k,_,h0,h=>by unfold qI at h;simp at h;omega
 | a::r,k,hn,h0,h=>by
  by_cases c:k < 256*a
  ·exact⟨0,a,rfl,h0,by rw[ut];omega⟩
  ·have e1:qI (a::r)=256*a+qI r:=by unfold qI;rw[Jf,QV]
   obtain⟨i,e,g1,g2,g3⟩:=znk (d:=r) (k:=k - 256*a) (λn hn'=>hn n (.tail _ hn')) oM oM;have e2:qD (a::r) (i+1)=256*a+qD r i:=by unfold qD;rw[Ki,Jf,QV]
   exact⟨i+1,e,g1,oM,oM⟩
def z8(on:Nat->Prop)[DecidablePred on]:Nat->List (Nat×Nat)×Option Nat
 | 0=>([],none)
 | t+1=>if on t then((z8 on t).1,some ((z8 on t).2.getD t)) else((z8 on t).1++((z8 on t).2.map λf=>(f,t)).toList,none)
def kg(on:Nat->Prop)[DecidablePred on](t:Nat):List (Nat×Nat):=(z8 on t).1++((z8 on t).2.map λf=>(f,t)).toList
end
section
variable {on:Nat->Prop} [DecidablePred on]
theorem ve(t:Nat):z8 on (t+1)=if on t then((z8 on t).1,some ((z8 on t).2.getD t)) else((z8 on t).1++((z8 on t).2.map λf=>(f,t)).toList,none):=rfl
theorem zwC{a b:Nat}(hab:a < b)(h:∀t,a<=t->t < b->on t):z8 on b=((z8 on a).1,some ((z8 on a).2.getD a)):=by
 obtain⟨k,rfl⟩:∃k,b=a+1+k:=⟨b - a - 1,oM⟩
 induction k with
 | zero=>rw[show a+1+0=a+1 from rfl,ve,if_pos (h a (Xh _) oM)]
 | succ k ih=>
  rw[show a+1+(k+1)=(a+1+k)+1 from rfl,ve,if_pos (h _ oM oM),ih oM λt h1 h2=>h t h1 oM];rfl
theorem zsC{a b:Nat}(hab:a < b)(h:∀t,a<=t->t < b->¬on t):z8 on b=(kg on a,none):=by
 obtain⟨k,rfl⟩:∃k,b=a+1+k:=⟨b - a - 1,oM⟩
 induction k with
 | zero=>rw[show a+1+0=a+1 from rfl,ve,if_neg (h a (Xh _) oM)];rfl
 | succ k ih=>
  rw[show a+1+(k+1)=(a+1+k)+1 from rfl,ve,if_neg (h _ oM oM),ih oM λt h1 h2=>h t h1 oM];exact Prod.ext (XE _) rfl
theorem zpl{a:Nat}:∀k,∃r,(z8 on (a+k)).1=(z8 on a).1++r
 | 0=>⟨[],by simp⟩
 | k+1=>by
  obtain⟨r,hr⟩:=zpl (a:=a) k;rw[show a+(k+1)=(a+k)+1 from rfl,ve]
  split
  ·exact⟨r,hr⟩
  ·exact⟨r++_,by rw[← XL,← hr]⟩
theorem zwD{a b:Nat}(hab:a<=b):∃r,kg on b=(z8 on a).1++r:=by
 obtain⟨k,rfl⟩:∃k,b=a+k:=⟨b - a,oM⟩;obtain⟨r,hr⟩:=zpl (on:=on) (a:=a) k;exact⟨r++_,by unfold kg;rw[hr,XL]⟩
theorem zb1:∀t,(∀q∈(z8 on t).1,q.1 < q.2/\q.2 < t)/\∀f,(z8 on t).2=some f->f < t
 | 0=>⟨λq hq=>(by cases hq),λf h=>(by cases h)⟩
 | t+1=>by
  have ih:=zb1 t;rw[ve]
  split
  ·refine⟨λq hq=>⟨(ih.1 q hq).1,by have:=(ih.1 q hq).2;omega⟩,λf hf=>?_⟩;have hf:=Xj hf
   cases ho:(z8 on t).2 with
   | none=>rw[ho]at hf;simp at hf;omega
   | some f'=>rw[ho]at hf;simp at hf;have:=ih.2 f' ho;omega
  ·refine⟨λq hq=>?_,λf hf=>by cases hf⟩
   rcases Xo.1 hq with hq | hq
   ·exact⟨(ih.1 q hq).1,by have:=(ih.1 q hq).2;omega⟩
   ·cases ho:(z8 on t).2 with
    | none=>rw[ho]at hq;cases hq
    | some f'=>
     rw[ho]at hq;have:=Xr.1 hq;subst this;exact⟨ih.2 f' ho,by dsimp only;omega⟩
theorem zjY{t:Nat}:∀q∈kg on t,q.1 < q.2/\q.2<=t:=λq hq=>by
 have h:=zb1 (on:=on) t
 rcases Xo.1 hq with hq | hq
 ·exact⟨(h.1 q hq).1,by have:=(h.1 q hq).2;omega⟩
 ·cases ho:(z8 on t).2 with
  | none=>rw[ho]at hq;cases hq
  | some f'=>
   rw[ho]at hq;have:=Xr.1 hq;subst this;exact⟨h.2 f' ho,Xh _⟩
theorem zlL:∀t f,(z8 on t).2=some f->∀q∈(z8 on t).1,q.2 < f
 | 0,f,h=>by cases h
 | t+1,f,h=>by
  rw[ve]at h ⊢
  split at h
  ·rename_i c;rw[if_pos c];have h:=Xj h;intro q hq
   cases ho:(z8 on t).2 with
   | none=>rw[ho]at h;have:=((zb1 (on:=on) t).1 q hq).2;simp at h;omega
   | some f'=>rw[ho]at h;simp at h;subst h;exact zlL t f' ho q hq
  ·cases h
theorem zyP{t:Nat}{q:Nat×Nat}(hq:q∈kg on t)(h1:q.1=0)(h2:q.2=t):kg on t=[q]:=by
 rcases Xo.1 hq with hm | hm
 ·have:=((zb1 (on:=on) t).1 q hm).2;omega
 ·unfold kg
  cases ho:(z8 on t).2 with
  | none=>rw[ho]at hm;cases hm
  | some f=>
   rw[ho]at hm;have e:=Xr.1 hm
   have e0:(z8 on t).1=[]:=by
    cases hc:(z8 on t).1 with
    | nil=>rfl
    | cons a r=>
     have h3:=zlL t f ho a (by rw[hc];exact .head _);rw[e]at h1;have h1:f=0:=h1;omega
   rw[e0,e];rfl
end
def drawn(d:List Int):Int:=256*((List.range d.length).map λi=>if i % 2=0 then d.getD i 0 else 0).sum
def kT(pen:Pen)(long:Int):List (Nat×Nat):=
 if ¬kF pen∨long < 1∨(0 < qI pen.d/\drawn pen.d=0) then[]
 else if qI pen.d=drawn pen.d then[(0,long.toNat)] else kg (onD pen) long.toNat
def zO(a b:Pt):Int:=zoZ (zcv b a)
def ze(p:Pl):List Pt:=if p.cl=true/\2<=(zu p).pts.length then(zu p).pts++[nth (zu p).pts 0] else(zu p).pts
def atS(c:List Pt):Nat->Int
 | 0=>0
 | i+1=>atS c i+zO (nth c i) (nth c (i+1))
def zK(p:Pl):Int:=atS (ze p) ((ze p).length - 1)
def zjZ(c:List Pt)(x:Int):Nat->Nat
 | 0=>0
 | i+1=>if x < atS c (i+1) then zjZ c x i else i+1
def zc0(c:List Pt)(x:Int):Pt:=
 let i:=zjZ c x (c.length - 2)
 yl (nth c i) (nth c (i+1)) (x - atS c i) (atS c (i+1) - atS c i)
def zeP(c:List Pt)(f t:Int)(n:Nat):List Pt:=((List.range n).filter λi=>decide (f < atS c i/\atS c i < t)).map (nth c)
def vh(c:List Pt)(f t:Int):List Pt:=kz [] ([zc0 c f]++zeP c f t (c.length - 1)++[zc0 c t])
def j9(p:Pl)(q:Nat×Nat):Pl:=if p.cl=true/\q.1=0/\(q.2:Int)=zK p then zu p else⟨vh (ze p) q.1 q.2,false⟩
def jy(p:Pl)(pen:Pen):List Pl×Int:=
 if ¬kF pen then([],13) else if ¬∀q∈p.pts,zr q then([],6) else if 4096 < p.pts.length then([],5)
 else if pen.d=[] then([zu p],0)
 else if 4096 < jI ((kT pen (zK p)).map (j9 p)) then([],5) else((kT pen (zK p)).map (j9 p),0)
def goP(t:AF)(p:Pt):Pt:=⟨(yX t (p.x:Rat) (p.y:Rat)+Rat.divInt 1 2).floor,(yY t (p.x:Rat) (p.y:Rat)+Rat.divInt 1 2).floor⟩
def kI(t:AF)(p:Pt):Pt×Int:=if ¬t.ok then(zp,5) else if ¬zr p then(zp,6) else if zr (goP t p) then(goP t p,0) else(zp,6)
theorem zcC(t:AF)(p:Pt)(ht:t.le 100000):CG0 46 [.agg (afE t),.agg (ptE p)] [] (.tup [.agg (ptE (kI t p).1),i64 (kI t p).2]) []:=by
 obtain⟨ha,hb,hc,hd,he,hf⟩:=ht;refine zc Tryz.func46 ?_;have fin:∀(q:Pt) (n:Int),(kI t p)=(q,n)->LE (.tup [.agg (ptE q),i64 n]) (.tup [.agg (ptE (kI t p).1),i64 (kI t p).2]):=λq n h=>by rw[h];exact .refl
 refine zb.t (zcu t ⟨oM,oM,oM,oM,oM,oM⟩)<|⟨λh1=>?_,λh1=>?_⟩
 ·exact fin zp 5 (by rw[kI,if_pos h1])
 refine zb.t (qg p)<|⟨λh2=>?_,λh2=>?_⟩
 ·exact fin zp 6 (by rw[kI,if_neg h1,if_pos h2])
 have hp:zr p:=XK h2;have hx:R64 p.x:=by unfold R64;unfold zr at hp;omega
 have hy:R64 p.y:=by unfold R64;unfold zr at hp;omega
 have lx:=zdu p.x;have ly:=zdu p.y;have zx:=qO hx;have zy:=qO hy;refine Dr.k<|zb.t (yq p.x hx)<|zb.t (yq p.y hy)<|zb.t (zis t (ofQ (p.x:Rat)) (ofQ (p.y:Rat)) ⟨oM,oM,oM,oM,oM,oM⟩ (by rw[zB];omega) (by rw[zB];omega)) ?_;rw[z6,z6];have lX:=qh t.a (ofQ (p.x:Rat)) t.c (ofQ (p.y:Rat)) t.e (n:=100000) ha (by rw[zB];omega) hc (by rw[zB];omega) he;have lY:=qh t.b (ofQ (p.x:Rat)) t.d (ofQ (p.y:Rat)) t.f (n:=100000) hb (by rw[zB];omega) hd (by rw[zB];omega) hf;rw[z6,z6]at lX lY
 have lh:jY (Rat.divInt 1 2)<=1:=by decide +kernel
 have mX:=za0 (yX t p.x p.y) (Rat.divInt 1 2);have mY:=za0 (yY t p.x p.y) (Rat.divInt 1 2);have lX2:jY (yX t p.x p.y)<=500007:=lX.2;have lY2:jY (yY t p.x p.y)<=500007:=lY.2
 have fl:∀q:Rat,jp q.floor<=jY q:=λq=>Xz (zbQ (by
  rw[JO]
  exact QJ _ _)) (qa q)
 have fX:=fl (yX t p.x p.y+Rat.divInt 1 2);have fY:=fl (yY t p.x p.y+Rat.divInt 1 2);refine zb.t (zqZ 1 2 dC dC dC)<|zb.t (zoS (ofQ (yX t p.x p.y)) (ofQ (Rat.divInt 1 2)) (by rw[zB];omega) (by rw[zB];omega)) ?_;rw[z6,z6];refine zb.t (zsh (ofQ (yX t p.x p.y+Rat.divInt 1 2)) (by rw[zB];omega)) ?_;rw[z6];refine zb.t (zsf (ofZ (yX t p.x p.y+Rat.divInt 1 2).floor) (by rw[zS];omega))<|zb.t (zoS (ofQ (yY t p.x p.y)) (ofQ (Rat.divInt 1 2)) (by rw[zB];omega) (by rw[zB];omega)) ?_;rw[z6,z6]
 refine zb.t (zsh (ofQ (yY t p.x p.y+Rat.divInt 1 2)) (by rw[zB];omega)) ?_;rw[z6];refine zb.t (zsf (ofZ (yY t p.x p.y+Rat.divInt 1 2).floor) (by rw[zS];omega)) ?_;rw[zV,zV];obtain⟨X,hX⟩:∃X,(yX t p.x p.y+Rat.divInt 1 2).floor=X:=⟨_,rfl⟩;obtain⟨Y,hY⟩:∃Y,(yY t p.x p.y+Rat.divInt 1 2).floor=Y:=⟨_,rfl⟩;have hg:goP t p=⟨X,Y⟩:=by unfold goP;rw[hX,hY]
 rw[hX,hY];have out:¬zr ⟨X,Y⟩->kI t p=(zp,6):=λh=>by rw[kI,if_neg h1,if_neg h2,if_neg (by rw[hg];exact h)]
 have inn:zr ⟨X,Y⟩->kI t p=(⟨X,Y⟩,0):=λh=>by rw[kI,if_neg h1,if_neg h2,if_pos (by rw[hg];exact h),hg]
 have big:zr ⟨X,Y⟩->(-9223372036854775808<=X/\X<=9223372036854775807)/\(-9223372036854775808<=Y/\Y<=9223372036854775807):=λh=>by unfold zr at h;dsimp only at h;omega
 refine⟨λh3=>?_,λh3=>?_⟩
 ·refine⟨λh4=>?_,λh4=>?_⟩
  ·refine zb.t (qg ⟨y4 X,y4 Y⟩) ?_;rw[y4,if_pos h3,y4,if_pos h4];refine⟨λh5=>?_,λh5=>?_⟩
   ·exact fin ⟨X,Y⟩ 0 (inn h5)
   ·exact fin zp 6 (out h5)
  ·exact fin zp 6 (out λh=>h4 (big h).2)
 ·exact fin zp 6 (out λh=>h3 (big h).1)
end Go.Gs
