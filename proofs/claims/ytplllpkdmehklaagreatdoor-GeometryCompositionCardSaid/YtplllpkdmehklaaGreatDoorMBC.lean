/- The disc of a stroke, the program's. -/
import Derived.Test.YtplllpkdmehklaaGreatDoorMA
import Derived.Test.YtplllpkdmehklaaGreatDoorMBB
import Derived.Test.YtplllpkdmehklaaGreatDoorMAY
set_option maxRecDepth 100000
set_option maxHeartbeats 8000000
set_option linter.all false
namespace Go.Gs
open Go.Proofs
theorem zqr(p:Pt)(w:Int):zd Tryz.prog 319 [.agg (ptE p),i64 w] [] (.sl ptE (zcx p w)) []:=by
 refine zc tok mix Tryz.func319 rfl rfl rfl ?_
 have bad:¬(kB w/\zn p)->LE (.val (.slice none 0 0)) (.sl ptE (zcx p w)):=fun h=>by
  unfold zcx;rw [if_pos h];exact zC
 refine zb.t (vo w) ?_;refine Br.mk (fun a1=>bad (fun h=>a1 h.1)) (fun a1=>?_);refine zb.t (kS p) ?_;refine Br.mk (fun a2=>bad (fun h=>a2 h.2)) (fun a2=>?_);have h:kB w/\zn p:=⟨Decidable.not_not.1 a1,Decidable.not_not.1 a2⟩;refine zb.t zBC ?_;refine ⟨Nat,fun i=>⟨[(17,i64 (i:Int)),(16,.agg (v7 4 0)),(5,.own 1),(2,.loc 0 0),(1,i64 w)],[(1,.arr 63 ptE 2 ((zt.take i).map (qZ p w))),(0,.box 63 (ptE p))],2,39,0⟩,fun i=>i<=16,fun i=>16 - i,0,?_,?_,?_⟩
 ·exact Nat.zero_le _
 ·exact zf [(0,some 0),(1,none)]
 rintro i hi
 match i,hi with
 | 0,_=>
  have hb:=j7 (zt.getD 0 zp) dC;have t1:=zW hb.1 h.1;have t2:=zW hb.2 h.1;refine Br.y ?_;refine Dr.d ?_;refine Ar.fit (show -9223372036854775808<=(zt.getD 0 zp).x*w/\(zt.getD 0 zp).x*w<=9223372036854775807 by omega) ?_;refine zb.t (zI ((zt.getD 0 zp).x*w) 32768 ⟨oM,oM⟩ ⟨dC,dC⟩) ?_;rw [t1.2.2];refine Ar.fit (show -9223372036854775808<=(zt.getD 0 zp).y*w/\(zt.getD 0 zp).y*w<=9223372036854775807 by omega) ?_;refine zb.t (zI ((zt.getD 0 zp).y*w) 32768 ⟨oM,oM⟩ ⟨dC,dC⟩) ?_;rw [t2.2.2]
  refine zb.t (jK p ⟨zX ((zt.getD 0 zp).x*w) 32768,zX ((zt.getD 0 zp).y*w) 32768⟩ h.2.p45.s ⟨by dsimp only;omega,by dsimp only;omega⟩) ?_;refine ⟨Pt,ptE,[qZ p w (zt.getD 0 zp)],rfl,Ob.o0 ?_⟩;refine ⟨[qZ p w (zt.getD 0 zp)],rfl,Ob.mk ⟨by show ((0:Nat)+((1:Nat):Int))*16<=_;decide,by show 0+1<=_;decide,dC,fun _ _=>rfl⟩ ?_⟩;refine Ob.mk (by kernel_rfl) ?_;refine Ar.fit dC ?_;exact ⟨1,dC,zf [(0,some 0),(1,some 4)],dC⟩
 | 1,_=>
  have hb:=j7 (zt.getD 1 zp) dC;have t1:=zW hb.1 h.1;have t2:=zW hb.2 h.1;refine Br.y ?_;refine Dr.d ?_;refine Ar.fit (show -9223372036854775808<=(zt.getD 1 zp).x*w/\(zt.getD 1 zp).x*w<=9223372036854775807 by omega) ?_;refine zb.t (zI ((zt.getD 1 zp).x*w) 32768 ⟨oM,oM⟩ ⟨dC,dC⟩) ?_;rw [t1.2.2];refine Ar.fit (show -9223372036854775808<=(zt.getD 1 zp).y*w/\(zt.getD 1 zp).y*w<=9223372036854775807 by omega) ?_;refine zb.t (zI ((zt.getD 1 zp).y*w) 32768 ⟨oM,oM⟩ ⟨dC,dC⟩) ?_;rw [t2.2.2]
  refine zb.t (jK p ⟨zX ((zt.getD 1 zp).x*w) 32768,zX ((zt.getD 1 zp).y*w) 32768⟩ h.2.p45.s ⟨by dsimp only;omega,by dsimp only;omega⟩) ?_;refine ⟨Pt,ptE,[qZ p w (zt.getD 1 zp)],rfl,Ob.o0 ?_⟩;refine ⟨[qZ p w (zt.getD 1 zp)],rfl,Ob.mk ⟨by show ((1:Nat)+((1:Nat):Int))*16<=_;decide,by show 1+1<=_;decide,dC,fun _ _=>rfl⟩ ?_⟩;refine Ob.mk (by kernel_rfl) ?_;refine Ar.fit dC ?_;exact ⟨2,dC,zf [(0,some 0),(1,some 4)],dC⟩
 | 2,_=>
  have hb:=j7 (zt.getD 2 zp) dC;have t1:=zW hb.1 h.1;have t2:=zW hb.2 h.1;refine Br.y ?_;refine Dr.d ?_;refine Ar.fit (show -9223372036854775808<=(zt.getD 2 zp).x*w/\(zt.getD 2 zp).x*w<=9223372036854775807 by omega) ?_;refine zb.t (zI ((zt.getD 2 zp).x*w) 32768 ⟨oM,oM⟩ ⟨dC,dC⟩) ?_;rw [t1.2.2];refine Ar.fit (show -9223372036854775808<=(zt.getD 2 zp).y*w/\(zt.getD 2 zp).y*w<=9223372036854775807 by omega) ?_;refine zb.t (zI ((zt.getD 2 zp).y*w) 32768 ⟨oM,oM⟩ ⟨dC,dC⟩) ?_;rw [t2.2.2]
  refine zb.t (jK p ⟨zX ((zt.getD 2 zp).x*w) 32768,zX ((zt.getD 2 zp).y*w) 32768⟩ h.2.p45.s ⟨by dsimp only;omega,by dsimp only;omega⟩) ?_;refine ⟨Pt,ptE,[qZ p w (zt.getD 2 zp)],rfl,Ob.o0 ?_⟩;refine ⟨[qZ p w (zt.getD 2 zp)],rfl,Ob.o9 ?_⟩;refine Ob.mk (by kernel_rfl) ?_;refine Ar.fit dC ?_;exact ⟨3,dC,zf [(0,some 0),(1,some 4)],dC⟩
 | 3,_=>
  have hb:=j7 (zt.getD 3 zp) dC;have t1:=zW hb.1 h.1;have t2:=zW hb.2 h.1;refine Br.y ?_;refine Dr.d ?_;refine Ar.fit (show -9223372036854775808<=(zt.getD 3 zp).x*w/\(zt.getD 3 zp).x*w<=9223372036854775807 by omega) ?_;refine zb.t (zI ((zt.getD 3 zp).x*w) 32768 ⟨oM,oM⟩ ⟨dC,dC⟩) ?_;rw [t1.2.2];refine Ar.fit (show -9223372036854775808<=(zt.getD 3 zp).y*w/\(zt.getD 3 zp).y*w<=9223372036854775807 by omega) ?_;refine zb.t (zI ((zt.getD 3 zp).y*w) 32768 ⟨oM,oM⟩ ⟨dC,dC⟩) ?_;rw [t2.2.2]
  refine zb.t (jK p ⟨zX ((zt.getD 3 zp).x*w) 32768,zX ((zt.getD 3 zp).y*w) 32768⟩ h.2.p45.s ⟨by dsimp only;omega,by dsimp only;omega⟩) ?_;refine ⟨Pt,ptE,[qZ p w (zt.getD 3 zp)],rfl,Ob.o0 ?_⟩;refine ⟨[qZ p w (zt.getD 3 zp)],rfl,Ob.o16 ?_⟩;refine Ob.mk (by kernel_rfl) ?_;refine Ar.fit dC ?_;exact ⟨4,dC,zf [(0,some 0),(1,some 4)],dC⟩
 | 4,_=>
  have hb:=j7 (zt.getD 4 zp) dC;have t1:=zW hb.1 h.1;have t2:=zW hb.2 h.1;refine Br.y ?_;refine Dr.d ?_;refine Ar.fit (show -9223372036854775808<=(zt.getD 4 zp).x*w/\(zt.getD 4 zp).x*w<=9223372036854775807 by omega) ?_;refine zb.t (zI ((zt.getD 4 zp).x*w) 32768 ⟨oM,oM⟩ ⟨dC,dC⟩) ?_;rw [t1.2.2];refine Ar.fit (show -9223372036854775808<=(zt.getD 4 zp).y*w/\(zt.getD 4 zp).y*w<=9223372036854775807 by omega) ?_;refine zb.t (zI ((zt.getD 4 zp).y*w) 32768 ⟨oM,oM⟩ ⟨dC,dC⟩) ?_;rw [t2.2.2]
  refine zb.t (jK p ⟨zX ((zt.getD 4 zp).x*w) 32768,zX ((zt.getD 4 zp).y*w) 32768⟩ h.2.p45.s ⟨by dsimp only;omega,by dsimp only;omega⟩) ?_;refine ⟨Pt,ptE,[qZ p w (zt.getD 4 zp)],rfl,Ob.o0 ?_⟩;refine ⟨[qZ p w (zt.getD 4 zp)],rfl,Ob.mk ⟨by show ((4:Nat)+((1:Nat):Int))*16<=_;decide,by show 4+1<=_;decide,dC,fun _ _=>rfl⟩ ?_⟩;refine Ob.mk (by kernel_rfl) ?_;refine Ar.fit dC ?_;exact ⟨5,dC,zf [(0,some 0),(1,some 4)],dC⟩
 | 5,_=>
  have hb:=j7 (zt.getD 5 zp) dC;have t1:=zW hb.1 h.1;have t2:=zW hb.2 h.1;refine Br.y ?_;refine Dr.d ?_;refine Ar.fit (show -9223372036854775808<=(zt.getD 5 zp).x*w/\(zt.getD 5 zp).x*w<=9223372036854775807 by omega) ?_;refine zb.t (zI ((zt.getD 5 zp).x*w) 32768 ⟨oM,oM⟩ ⟨dC,dC⟩) ?_;rw [t1.2.2];refine Ar.fit (show -9223372036854775808<=(zt.getD 5 zp).y*w/\(zt.getD 5 zp).y*w<=9223372036854775807 by omega) ?_;refine zb.t (zI ((zt.getD 5 zp).y*w) 32768 ⟨oM,oM⟩ ⟨dC,dC⟩) ?_;rw [t2.2.2]
  refine zb.t (jK p ⟨zX ((zt.getD 5 zp).x*w) 32768,zX ((zt.getD 5 zp).y*w) 32768⟩ h.2.p45.s ⟨by dsimp only;omega,by dsimp only;omega⟩) ?_;refine ⟨Pt,ptE,[qZ p w (zt.getD 5 zp)],rfl,Ob.o0 ?_⟩;refine ⟨[qZ p w (zt.getD 5 zp)],rfl,Ob.mk ⟨by show ((5:Nat)+((1:Nat):Int))*16<=_;decide,by show 5+1<=_;decide,dC,fun _ _=>rfl⟩ ?_⟩;refine Ob.mk (by kernel_rfl) ?_;refine Ar.fit dC ?_;exact ⟨6,dC,zf [(0,some 0),(1,some 4)],dC⟩
 | 6,_=>
  have hb:=j7 (zt.getD 6 zp) dC;have t1:=zW hb.1 h.1;have t2:=zW hb.2 h.1;refine Br.y ?_;refine Dr.d ?_;refine Ar.fit (show -9223372036854775808<=(zt.getD 6 zp).x*w/\(zt.getD 6 zp).x*w<=9223372036854775807 by omega) ?_;refine zb.t (zI ((zt.getD 6 zp).x*w) 32768 ⟨oM,oM⟩ ⟨dC,dC⟩) ?_;rw [t1.2.2];refine Ar.fit (show -9223372036854775808<=(zt.getD 6 zp).y*w/\(zt.getD 6 zp).y*w<=9223372036854775807 by omega) ?_;refine zb.t (zI ((zt.getD 6 zp).y*w) 32768 ⟨oM,oM⟩ ⟨dC,dC⟩) ?_;rw [t2.2.2]
  refine zb.t (jK p ⟨zX ((zt.getD 6 zp).x*w) 32768,zX ((zt.getD 6 zp).y*w) 32768⟩ h.2.p45.s ⟨by dsimp only;omega,by dsimp only;omega⟩) ?_;refine ⟨Pt,ptE,[qZ p w (zt.getD 6 zp)],rfl,Ob.o0 ?_⟩;refine ⟨[qZ p w (zt.getD 6 zp)],rfl,Ob.mk ⟨by show ((6:Nat)+((1:Nat):Int))*16<=_;decide,by show 6+1<=_;decide,dC,fun _ _=>rfl⟩ ?_⟩;refine Ob.mk (by kernel_rfl) ?_;refine Ar.fit dC ?_;exact ⟨7,dC,zf [(0,some 0),(1,some 4)],dC⟩
 | 7,_=>
  have hb:=j7 (zt.getD 7 zp) dC;have t1:=zW hb.1 h.1;have t2:=zW hb.2 h.1;refine Br.y ?_;refine Dr.d ?_;refine Ar.fit (show -9223372036854775808<=(zt.getD 7 zp).x*w/\(zt.getD 7 zp).x*w<=9223372036854775807 by omega) ?_;refine zb.t (zI ((zt.getD 7 zp).x*w) 32768 ⟨oM,oM⟩ ⟨dC,dC⟩) ?_;rw [t1.2.2];refine Ar.fit (show -9223372036854775808<=(zt.getD 7 zp).y*w/\(zt.getD 7 zp).y*w<=9223372036854775807 by omega) ?_;refine zb.t (zI ((zt.getD 7 zp).y*w) 32768 ⟨oM,oM⟩ ⟨dC,dC⟩) ?_;rw [t2.2.2]
  refine zb.t (jK p ⟨zX ((zt.getD 7 zp).x*w) 32768,zX ((zt.getD 7 zp).y*w) 32768⟩ h.2.p45.s ⟨by dsimp only;omega,by dsimp only;omega⟩) ?_;refine ⟨Pt,ptE,[qZ p w (zt.getD 7 zp)],rfl,Ob.o0 ?_⟩;refine ⟨[qZ p w (zt.getD 7 zp)],rfl,Ob.mk ⟨by show ((7:Nat)+((1:Nat):Int))*16<=_;decide,by show 7+1<=_;decide,dC,fun _ _=>rfl⟩ ?_⟩;refine Ob.mk (by kernel_rfl) ?_;refine Ar.fit dC ?_;exact ⟨8,dC,zf [(0,some 0),(1,some 4)],dC⟩
 | 8,_=>
  have hb:=j7 (zt.getD 8 zp) dC;have t1:=zW hb.1 h.1;have t2:=zW hb.2 h.1;refine Br.y ?_;refine Dr.d ?_;refine Ar.fit (show -9223372036854775808<=(zt.getD 8 zp).x*w/\(zt.getD 8 zp).x*w<=9223372036854775807 by omega) ?_;refine zb.t (zI ((zt.getD 8 zp).x*w) 32768 ⟨oM,oM⟩ ⟨dC,dC⟩) ?_;rw [t1.2.2];refine Ar.fit (show -9223372036854775808<=(zt.getD 8 zp).y*w/\(zt.getD 8 zp).y*w<=9223372036854775807 by omega) ?_;refine zb.t (zI ((zt.getD 8 zp).y*w) 32768 ⟨oM,oM⟩ ⟨dC,dC⟩) ?_;rw [t2.2.2]
  refine zb.t (jK p ⟨zX ((zt.getD 8 zp).x*w) 32768,zX ((zt.getD 8 zp).y*w) 32768⟩ h.2.p45.s ⟨by dsimp only;omega,by dsimp only;omega⟩) ?_;refine ⟨Pt,ptE,[qZ p w (zt.getD 8 zp)],rfl,Ob.o0 ?_⟩;refine ⟨[qZ p w (zt.getD 8 zp)],rfl,Ob.mk ⟨by show ((8:Nat)+((1:Nat):Int))*16<=_;decide,by show 8+1<=_;decide,dC,fun _ _=>rfl⟩ ?_⟩;refine Ob.mk (by kernel_rfl) ?_;refine Ar.fit dC ?_;exact ⟨9,dC,zf [(0,some 0),(1,some 4)],dC⟩
 | 9,_=>
  have hb:=j7 (zt.getD 9 zp) dC;have t1:=zW hb.1 h.1;have t2:=zW hb.2 h.1;refine Br.y ?_;refine Dr.d ?_;refine Ar.fit (show -9223372036854775808<=(zt.getD 9 zp).x*w/\(zt.getD 9 zp).x*w<=9223372036854775807 by omega) ?_;refine zb.t (zI ((zt.getD 9 zp).x*w) 32768 ⟨oM,oM⟩ ⟨dC,dC⟩) ?_;rw [t1.2.2];refine Ar.fit (show -9223372036854775808<=(zt.getD 9 zp).y*w/\(zt.getD 9 zp).y*w<=9223372036854775807 by omega) ?_;refine zb.t (zI ((zt.getD 9 zp).y*w) 32768 ⟨oM,oM⟩ ⟨dC,dC⟩) ?_;rw [t2.2.2]
  refine zb.t (jK p ⟨zX ((zt.getD 9 zp).x*w) 32768,zX ((zt.getD 9 zp).y*w) 32768⟩ h.2.p45.s ⟨by dsimp only;omega,by dsimp only;omega⟩) ?_;refine ⟨Pt,ptE,[qZ p w (zt.getD 9 zp)],rfl,Ob.o0 ?_⟩;refine ⟨[qZ p w (zt.getD 9 zp)],rfl,Ob.mk ⟨by show ((9:Nat)+((1:Nat):Int))*16<=_;decide,by show 9+1<=_;decide,dC,fun _ _=>rfl⟩ ?_⟩;refine Ob.mk (by kernel_rfl) ?_;refine Ar.fit dC ?_;exact ⟨10,dC,zf [(0,some 0),(1,some 4)],dC⟩
 | 10,_=>
  have hb:=j7 (zt.getD 10 zp) dC;have t1:=zW hb.1 h.1;have t2:=zW hb.2 h.1;refine Br.y ?_;refine Dr.d ?_;refine Ar.fit (show -9223372036854775808<=(zt.getD 10 zp).x*w/\(zt.getD 10 zp).x*w<=9223372036854775807 by omega) ?_;refine zb.t (zI ((zt.getD 10 zp).x*w) 32768 ⟨oM,oM⟩ ⟨dC,dC⟩) ?_;rw [t1.2.2];refine Ar.fit (show -9223372036854775808<=(zt.getD 10 zp).y*w/\(zt.getD 10 zp).y*w<=9223372036854775807 by omega) ?_;refine zb.t (zI ((zt.getD 10 zp).y*w) 32768 ⟨oM,oM⟩ ⟨dC,dC⟩) ?_;rw [t2.2.2]
  refine zb.t (jK p ⟨zX ((zt.getD 10 zp).x*w) 32768,zX ((zt.getD 10 zp).y*w) 32768⟩ h.2.p45.s ⟨by dsimp only;omega,by dsimp only;omega⟩) ?_;refine ⟨Pt,ptE,[qZ p w (zt.getD 10 zp)],rfl,Ob.o0 ?_⟩;refine ⟨[qZ p w (zt.getD 10 zp)],rfl,Ob.mk ⟨by show ((10:Nat)+((1:Nat):Int))*16<=_;decide,by show 10+1<=_;decide,dC,fun _ _=>rfl⟩ ?_⟩;refine Ob.mk (by kernel_rfl) ?_;refine Ar.fit dC ?_;exact ⟨11,dC,zf [(0,some 0),(1,some 4)],dC⟩
 | 11,_=>
  have hb:=j7 (zt.getD 11 zp) dC;have t1:=zW hb.1 h.1;have t2:=zW hb.2 h.1;refine Br.y ?_;refine Dr.d ?_;refine Ar.fit (show -9223372036854775808<=(zt.getD 11 zp).x*w/\(zt.getD 11 zp).x*w<=9223372036854775807 by omega) ?_;refine zb.t (zI ((zt.getD 11 zp).x*w) 32768 ⟨oM,oM⟩ ⟨dC,dC⟩) ?_;rw [t1.2.2];refine Ar.fit (show -9223372036854775808<=(zt.getD 11 zp).y*w/\(zt.getD 11 zp).y*w<=9223372036854775807 by omega) ?_;refine zb.t (zI ((zt.getD 11 zp).y*w) 32768 ⟨oM,oM⟩ ⟨dC,dC⟩) ?_;rw [t2.2.2]
  refine zb.t (jK p ⟨zX ((zt.getD 11 zp).x*w) 32768,zX ((zt.getD 11 zp).y*w) 32768⟩ h.2.p45.s ⟨by dsimp only;omega,by dsimp only;omega⟩) ?_;refine ⟨Pt,ptE,[qZ p w (zt.getD 11 zp)],rfl,Ob.o0 ?_⟩;refine ⟨[qZ p w (zt.getD 11 zp)],rfl,Ob.mk ⟨by show ((11:Nat)+((1:Nat):Int))*16<=_;decide,by show 11+1<=_;decide,dC,fun _ _=>rfl⟩ ?_⟩;refine Ob.mk (by kernel_rfl) ?_;refine Ar.fit dC ?_;exact ⟨12,dC,zf [(0,some 0),(1,some 4)],dC⟩
 | 12,_=>
  have hb:=j7 (zt.getD 12 zp) dC;have t1:=zW hb.1 h.1;have t2:=zW hb.2 h.1;refine Br.y ?_;refine Dr.d ?_;refine Ar.fit (show -9223372036854775808<=(zt.getD 12 zp).x*w/\(zt.getD 12 zp).x*w<=9223372036854775807 by omega) ?_;refine zb.t (zI ((zt.getD 12 zp).x*w) 32768 ⟨oM,oM⟩ ⟨dC,dC⟩) ?_;rw [t1.2.2];refine Ar.fit (show -9223372036854775808<=(zt.getD 12 zp).y*w/\(zt.getD 12 zp).y*w<=9223372036854775807 by omega) ?_;refine zb.t (zI ((zt.getD 12 zp).y*w) 32768 ⟨oM,oM⟩ ⟨dC,dC⟩) ?_;rw [t2.2.2]
  refine zb.t (jK p ⟨zX ((zt.getD 12 zp).x*w) 32768,zX ((zt.getD 12 zp).y*w) 32768⟩ h.2.p45.s ⟨by dsimp only;omega,by dsimp only;omega⟩) ?_;refine ⟨Pt,ptE,[qZ p w (zt.getD 12 zp)],rfl,Ob.o0 ?_⟩;refine ⟨[qZ p w (zt.getD 12 zp)],rfl,Ob.mk ⟨by show ((12:Nat)+((1:Nat):Int))*16<=_;decide,by show 12+1<=_;decide,dC,fun _ _=>rfl⟩ ?_⟩;refine Ob.mk (by kernel_rfl) ?_;refine Ar.fit dC ?_;exact ⟨13,dC,zf [(0,some 0),(1,some 4)],dC⟩
 | 13,_=>
  have hb:=j7 (zt.getD 13 zp) dC;have t1:=zW hb.1 h.1;have t2:=zW hb.2 h.1;refine Br.y ?_;refine Dr.d ?_;refine Ar.fit (show -9223372036854775808<=(zt.getD 13 zp).x*w/\(zt.getD 13 zp).x*w<=9223372036854775807 by omega) ?_;refine zb.t (zI ((zt.getD 13 zp).x*w) 32768 ⟨oM,oM⟩ ⟨dC,dC⟩) ?_;rw [t1.2.2];refine Ar.fit (show -9223372036854775808<=(zt.getD 13 zp).y*w/\(zt.getD 13 zp).y*w<=9223372036854775807 by omega) ?_;refine zb.t (zI ((zt.getD 13 zp).y*w) 32768 ⟨oM,oM⟩ ⟨dC,dC⟩) ?_;rw [t2.2.2]
  refine zb.t (jK p ⟨zX ((zt.getD 13 zp).x*w) 32768,zX ((zt.getD 13 zp).y*w) 32768⟩ h.2.p45.s ⟨by dsimp only;omega,by dsimp only;omega⟩) ?_;refine ⟨Pt,ptE,[qZ p w (zt.getD 13 zp)],rfl,Ob.o0 ?_⟩;refine ⟨[qZ p w (zt.getD 13 zp)],rfl,Ob.mk ⟨by show ((13:Nat)+((1:Nat):Int))*16<=_;decide,by show 13+1<=_;decide,dC,fun _ _=>rfl⟩ ?_⟩;refine Ob.mk (by kernel_rfl) ?_;refine Ar.fit dC ?_;exact ⟨14,dC,zf [(0,some 0),(1,some 4)],dC⟩
 | 14,_=>
  have hb:=j7 (zt.getD 14 zp) dC;have t1:=zW hb.1 h.1;have t2:=zW hb.2 h.1;refine Br.y ?_;refine Dr.d ?_;refine Ar.fit (show -9223372036854775808<=(zt.getD 14 zp).x*w/\(zt.getD 14 zp).x*w<=9223372036854775807 by omega) ?_;refine zb.t (zI ((zt.getD 14 zp).x*w) 32768 ⟨oM,oM⟩ ⟨dC,dC⟩) ?_;rw [t1.2.2];refine Ar.fit (show -9223372036854775808<=(zt.getD 14 zp).y*w/\(zt.getD 14 zp).y*w<=9223372036854775807 by omega) ?_;refine zb.t (zI ((zt.getD 14 zp).y*w) 32768 ⟨oM,oM⟩ ⟨dC,dC⟩) ?_;rw [t2.2.2]
  refine zb.t (jK p ⟨zX ((zt.getD 14 zp).x*w) 32768,zX ((zt.getD 14 zp).y*w) 32768⟩ h.2.p45.s ⟨by dsimp only;omega,by dsimp only;omega⟩) ?_;refine ⟨Pt,ptE,[qZ p w (zt.getD 14 zp)],rfl,Ob.o0 ?_⟩;refine ⟨[qZ p w (zt.getD 14 zp)],rfl,Ob.mk ⟨by show ((14:Nat)+((1:Nat):Int))*16<=_;decide,by show 14+1<=_;decide,dC,fun _ _=>rfl⟩ ?_⟩;refine Ob.mk (by kernel_rfl) ?_;refine Ar.fit dC ?_;exact ⟨15,dC,zf [(0,some 0),(1,some 4)],dC⟩
 | 15,_=>
  have hb:=j7 (zt.getD 15 zp) dC;have t1:=zW hb.1 h.1;have t2:=zW hb.2 h.1;refine Br.y ?_;refine Dr.d ?_;refine Ar.fit (show -9223372036854775808<=(zt.getD 15 zp).x*w/\(zt.getD 15 zp).x*w<=9223372036854775807 by omega) ?_;refine zb.t (zI ((zt.getD 15 zp).x*w) 32768 ⟨oM,oM⟩ ⟨dC,dC⟩) ?_;rw [t1.2.2];refine Ar.fit (show -9223372036854775808<=(zt.getD 15 zp).y*w/\(zt.getD 15 zp).y*w<=9223372036854775807 by omega) ?_;refine zb.t (zI ((zt.getD 15 zp).y*w) 32768 ⟨oM,oM⟩ ⟨dC,dC⟩) ?_;rw [t2.2.2]
  refine zb.t (jK p ⟨zX ((zt.getD 15 zp).x*w) 32768,zX ((zt.getD 15 zp).y*w) 32768⟩ h.2.p45.s ⟨by dsimp only;omega,by dsimp only;omega⟩) ?_;refine ⟨Pt,ptE,[qZ p w (zt.getD 15 zp)],rfl,Ob.o0 ?_⟩;refine ⟨[qZ p w (zt.getD 15 zp)],rfl,Ob.mk ⟨by show ((15:Nat)+((1:Nat):Int))*16<=_;decide,by show 15+1<=_;decide,dC,fun _ _=>rfl⟩ ?_⟩;refine Ob.mk (by kernel_rfl) ?_;refine Ar.fit dC ?_;exact ⟨16,dC,zf [(0,some 0),(1,some 4)],dC⟩
 | 16,_=>
  refine Br.mk (fun h=>absurd h dC) (fun _=>?_);refine zb.see 1 _ (zaM (zt.map (qZ p w)) (by show ((16:Nat):Int)<=_;decide)) rfl rfl rfl ?_;refine qy (show qO (zt.map (qZ p w))=zcx p w from ?_);unfold zcx;rw [if_neg (fun k=>k h)];rfl
 | _+17,hi=>exact absurd hi oM
theorem zd4(p q:Pt)(hp:S50 p.x/\S50 p.y)(hq:S50 q.x/\S50 q.y):zd Tryz.prog 326 [.agg (ptE p),.agg (ptE q)] [] (.agg (ptE (zQ p q))) []:=by
 refine zc tok mix Tryz.func326 rfl rfl rfl ?_;(iterate 2 refine Ar.o ?_);exact .refl
theorem zmF(r:List Pt):zd Tryz.prog 324 [.sl ptE r] [] (.sl zu (qV r)) []:=by
 refine zc tok mix Tryz.func324 rfl rfl rfl ?_;intro hl1;refine Br.mk (fun h=>?_) (fun h=>?_)
 ·have e:qV r=[]:=by unfold qV;rw [if_pos (List.eq_nil_of_length_eq_zero (by have h:(r.length:Int)=0:=h;omega))]
  rw [e];exact zC
 ·refine ⟨List Pt,zu,[r],rfl,Ob.o0 ?_⟩;refine qy (show [r]=qV r from ?_);unfold qV;rw [if_neg (fun e=>h (by rw [e];rfl))]
theorem zwn(a b:Int)(ha:0<=a/\a < 18446744073709551616)(hb:0<=b/\b < 18446744073709551616):
  zd Tryz.prog 175 [u64 a,u64 b] [] (.tup [u64 (a*b / 18446744073709551616),u64 (a*b % 18446744073709551616)]) []:=by
 obtain ⟨x,rfl⟩:=Int.eq_ofNat_of_zero_le ha.1;obtain ⟨y,rfl⟩:=Int.eq_ofNat_of_zero_le hb.1;have c:=zrE x y oM oM;have e1:((x*y / 18446744073709551616:Nat):Int)=(x:Int)*y / 18446744073709551616:=by rw [Int.natCast_ediv,Int.natCast_mul];rfl
 have e2:((x*y % 18446744073709551616:Nat):Int)=(x:Int)*y % 18446744073709551616:=by rw [Int.natCast_emod,Int.natCast_mul];rfl
 rw [e1,e2] at c;exact c
theorem zkZ{p q:Pt}(hp:zn p)(hq:zn q):zrW (zQ p q):=by
 unfold zn at hp hq;show (-2097152<=p.x+q.x/\p.x+q.x<=2097152)/\(-2097152<=p.y+q.y/\p.y+q.y<=2097152);omega
def tipE(o:Pt×Bool):SV:=.tup [.agg (ptE o.1),pr (o.2=true)]
theorem zcd{o:Pt×Bool}{n:Pt}{b:Bool}(h:o=(n,b)):LE (.tup [.agg (ptE n),bl b]) (tipE o):=by
 subst h;exact zU .refl zrx
theorem zfE{x w:Int}(hx: -2097152<=x/\x<=2097152)(hw:kB w):(-34359738368<=x*w/\x*w<=34359738368)/\(-562949953421312<=x*w*w/\x*w*w<=562949953421312)/\(1<=w*w/\w*w<=268435456):=by
 unfold kB at hw;have h1:=jy (A:=2097152) (B:=16384) (a:=x) (b:=w) oM oM;have h2:=jy (A:=34359738368) (B:=16384) (a:=x*w) (b:=w) oM oM;have h3:=jy (A:=16384) (B:=16384) (a:=w) (b:=w) oM oM;have h4:=Int.mul_pos (show 0 < w by omega) (show 0 < w by omega);omega
theorem zmG(x w q:Int)(hx: -2097152<=x/\x<=2097152)(hw:kB w)(hq:0<=q/\q<=8796093022208):zd Tryz.prog 343 [i64 x,.ptr [i64 w],.ptr [i64 q]] [] (i64 (zX (x*w*w) (2*q))) []:=by
 have h:=zfE hx hw;refine zc tok mix Tryz.func343 rfl rfl rfl ?_;(iterate 3 refine Ar.o ?_);refine zb.t (zI (x*w*w) (2*q) ⟨oM,oM⟩ ⟨oM,oM⟩) ?_;exact zj (zbz oM)
theorem p_tip(n m:Pt)(w lim:Int):zd Tryz.prog 327 [.agg (ptE n),.agg (ptE m),i64 w,i64 lim] [] (tipE (zca n m w lim)) []:=by
 refine zc tok mix Tryz.func327 rfl rfl rfl ?_;have bad:¬(zn n/\zn m/\kB w/\256<=lim/\lim<=65536)->zca n m w lim=(zp,false):=fun h=>by unfold zca;rw [if_pos h]
 refine zb.t (kS n) ?_;refine Br.mk (fun a1=>zcd (bad (fun h=>a1 h.1))) (fun a1=>?_);refine zb.t (kS m) ?_;refine Br.mk (fun a2=>zcd (bad (fun h=>a2 h.2.1))) (fun a2=>?_);refine zb.t (zrX w) ?_;refine Br.mk (fun a3=>zcd (bad (fun h=>a3 h.2.2.1))) (fun a3=>?_);refine Br.mk (fun a4=>zcd (bad (fun h=>by have a4:lim < 256:=a4;omega))) (fun a4=>?_);refine Br.mk (fun a5=>zcd (bad (fun h=>by have a5:65536 < lim:=a5;omega))) (fun a5=>?_);have hn:=Decidable.not_not.1 a1;have hm:=Decidable.not_not.1 a2;have hw:=Decidable.not_not.1 a3
 have hl:256<=lim/\lim<=65536:=⟨by have a4:¬lim < 256:=a4;omega,by have a5:¬65536 < lim:=a5;omega⟩;have hs:=zkZ hn hm
 have e:zca n m w lim=if (zQ n m).x*(zQ n m).x+(zQ n m).y*(zQ n m).y=0∨lim*lim*((zQ n m).x*(zQ n m).x+(zQ n m).y*(zQ n m).y) < 256*w*(256*w) then (zp,false)
   else (⟨zX ((zQ n m).x*w*w) (2*((zQ n m).x*(zQ n m).x+(zQ n m).y*(zQ n m).y)),zX ((zQ n m).y*w*w) (2*((zQ n m).x*(zQ n m).x+(zQ n m).y*(zQ n m).y))⟩,true):=by
  unfold zca;rw [if_neg (fun k=>k ⟨hn,hm,hw,hl⟩)]
 refine zb.t (zd4 n m hn.p45.s hm.p45.s) ?_;generalize zQ n m=s at*;have s1:=jy (A:=2097152) (B:=2097152) (a:=s.x) (b:=s.x) hs.1 hs.1;have s2:=jy (A:=2097152) (B:=2097152) (a:=s.y) (b:=s.y) hs.2 hs.2;have p1:=yA s.x;have p2:=yA s.y;have l1:=jy (A:=65536) (B:=65536) (a:=lim) (b:=lim) oM oM;have l2:=yA lim;have t:=zfE hs.1 hw;have w0:=hw;unfold kB at w0;(iterate 6 refine Ar.o ?_);have hq:0<=s.x*s.x+s.y*s.y/\s.x*s.x+s.y*s.y<=8796093022208:=oM
 refine zb.t (zwn (lim*lim) (s.x*s.x+s.y*s.y) oM oM) ?_;refine Br.mk (fun b1=>?_) (fun b1=>?_)
 ·have b1:s.x*s.x+s.y*s.y=0:=b1;exact zcd (e.trans (if_pos (.inl b1)))
 have b1:¬s.x*s.x+s.y*s.y=0:=b1;have hww:256*w*256*w=256*w*(256*w):=by grind
 have hP:0<=lim*lim*(s.x*s.x+s.y*s.y):=Int.mul_nonneg oM oM
 have go:¬lim*lim*(s.x*s.x+s.y*s.y) < 256*w*(256*w)->zca n m w lim=(⟨zX (s.x*w*w) (2*(s.x*s.x+s.y*s.y)),zX (s.y*w*w) (2*(s.x*s.x+s.y*s.y))⟩,true):=fun h=>
  e.trans (if_neg (fun k=>k.elim b1 h))
 have w3:256*w*256*w=65536*(w*w):=by grind
 refine Br.mk (fun b2=>?_) (fun b2=>?_)
 ·have b2:lim*lim*(s.x*s.x+s.y*s.y) / 18446744073709551616=0:=b2;(iterate 4 refine Ar.o ?_);refine Br.mk (fun b3=>?_) (fun b3=>?_)
  ·have b3:lim*lim*(s.x*s.x+s.y*s.y) % 18446744073709551616 < 256*w*256*w:=b3;exact zcd (e.trans (if_pos (.inr (by generalize lim*lim*(s.x*s.x+s.y*s.y)=P at*;omega))))
  ·have b3:¬lim*lim*(s.x*s.x+s.y*s.y) % 18446744073709551616 < 256*w*256*w:=b3;refine Dr.k ?_;refine zb.t (zmG s.x w (s.x*s.x+s.y*s.y) hs.1 hw hq) ?_;refine zb.t (zmG s.y w (s.x*s.x+s.y*s.y) hs.2 hw hq) ?_;exact zcd (go (by generalize lim*lim*(s.x*s.x+s.y*s.y)=P at*;omega))
 ·have b2:¬lim*lim*(s.x*s.x+s.y*s.y) / 18446744073709551616=0:=b2;refine Dr.k ?_;refine zb.t (zmG s.x w (s.x*s.x+s.y*s.y) hs.1 hw hq) ?_;refine zb.t (zmG s.y w (s.x*s.x+s.y*s.y) hs.2 hw hq) ?_;exact zcd (go (by generalize lim*lim*(s.x*s.x+s.y*s.y)=P at*;omega))
end Go.Gs
