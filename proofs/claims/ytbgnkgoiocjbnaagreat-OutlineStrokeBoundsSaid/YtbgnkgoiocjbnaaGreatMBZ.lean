/- What the closed facts of a row ask of the program alone, each by itself. -/
import Derived.Test.YtbgnkgoiocjbnaaGreatMA
import Derived.Test.YtbgnkgoiocjbnaaGreatRows
import Derived.WalkKit
import Derived.ProofKit
import Derived.OpenShut
import Derived.JoinedOf
import Derived.Test.YtbgnkgoiocjbnaaGreatMBX
import Derived.Test.YtbgnkgoiocjbnaaGreatMBY
import Derived.Deep.Slices
set_option maxRecDepth 100000
set_option maxHeartbeats 8000000
set_option linter.all false
namespace Go.Gs
open Go.Proofs Go.Proofs.YtbgnkgoiocjbnaaGreat
def dflt:OpenClaim:={ program:= "",sum:= "",func:= "",spec:= "" }
theorem j_laid:laidOutB Tryz.pinned.checked.prog=true:=by kernel_rfl
theorem j_enter:Tryz.pinned.checked.prog.mayEnter=true:=by kernel_rfl
theorem j_lifts:Tryz.pinned.checked.prog.liftsFinal=dflt.lifted:=by kernel_rfl
theorem j_make:Tryz.pinned.checked.prog.make=some dflt.make:=by kernel_rfl
theorem j_heard:Tryz.pinned.checked.prog.stopsHeard=true:=by kernel_rfl
theorem j_rowed:mapsRowed Tryz.pinned.checked.prog=true:=by kernel_rfl
theorem j_keys:Tryz.pinned.checked.prog.plainKeys=dflt.plainKeys:=by kernel_rfl
open Go.Proofs
theorem zhy{l:List Sg}{tol:Int}(h0:(kq l idA tol).2=0):qg (kq l idA tol).1/\(kq l idA tol).1.length<=100000:=by
 obtain ⟨hv,h2,t0,e⟩:=zoQ h0;have f:=zgV (lo:=⟨-1048576,-1048576⟩) (hi:=⟨1048576,1048576⟩) h0 (by rw [t0];exact fun p hp=>zlv.1 (zah hv p hp));refine ⟨⟨by have:=f.1;omega,fun r hr p hp=>zlv.2 (f.2 r hr p hp)⟩,?_⟩;rw [e];have h3:=zgZ (zI l tol).1;have h4:=(v8 l tol).1;show (qS (zI l tol).1).length<=100000;omega
theorem zdn{l:List Sg}{pen:Pen}{tol:Int}(h0:(jf l pen idA tol).2=0):(jf l pen idA tol).1.length<=100000:=by
 rcases zkj l pen tol with ⟨e,he,h⟩ | ⟨_,_,_,_,h⟩
 ·rw [h];exact Nat.zero_le _
 ·rw [h] at h0 ⊢;have sm:=(zb8 (qF (zI l tol).1 pen).1 pen).1
  by_cases k:qg (kQ (qF (zI l tol).1 pen).1 pen).1
  ·rw [zeg k];dsimp only;omega
  ·rw [zaJ k];exact Nat.zero_le _
theorem zuE(n:Int): -100000 < n.tmod 100000/\n.tmod 100000 < 100000:=by
 rcases tdm (m:=n) (n:=100000) oM with h | h <;> omega
theorem l_lawTranslation(l:List Sg)(pen:Pen)(k0 k1 tol:Int):zd Tryz.prog 6 [.sl sgE l,.agg (yi pen),.agg [i64 k0,i64 k1,i64 tol]] [] (bl true) []:=by
 refine zc tok mix Tryz.func6 rfl rfl rfl ?_;refine zcV.own ?_;intro hl1;refine Br.mk (fun c=>?_) (fun c=>?_)
 ·refine zb.t zf ?_;exact .refl
 have c:¬(24:Int) < l.length:=c;intro hl2;refine Br.mk (fun c=>?_) (fun _=>?_)
 ·refine zb.t zf ?_;exact .refl
 refine Dr.k ?_;refine Dv.any (by omega:(100000:Int)≠0) ?_;refine Dv.any (by omega:(100000:Int)≠0) ?_;have hx:=zuE k0;have hy:=zuE k1;generalize k0.tmod 100000=x at*;generalize k1.tmod 100000=y at*;have rx:R64 x:=by unfold R64;omega
 have ry:R64 y:=by unfold R64;omega
 have hp:zo ⟨x,y⟩:=by unfold zo;dsimp only;omega
 have ti:=uy;have tt:=tr_le rx ry;have fm:=zm2 (l:=l) (tol:=tol) rx ry;have sm:=zkk (l:=l) (pen:=pen) (tol:=tol) rx ry;rw [← zsN] at fm;refine Dr.d ?_;refine zb.t kI ?_;refine zb.t (u6 l idA tol ti oM) ?_;refine Ob.mk (by kernel_rfl) ?_;refine Dr.d ?_;refine zb.t (zkm x y rx ry) ?_;refine zb.t (u6 l (tr x y) tol tt oM) ?_;refine Ob.mk (by kernel_rfl) ?_;refine Dr.d ?_;refine zb.t kI ?_;refine zb.t (zcG l pen idA tol ti) ?_;refine Ob.mk (by kernel_rfl) ?_;refine Dr.d ?_;refine zb.t (zkm x y rx ry) ?_;refine zb.t (zcG l pen (tr x y) tol tt) ?_
 refine Ob.mk (by kernel_rfl) ?_;refine Br.mk (fun e=>?_) (fun e=>?_)
 ·have e:(kq l idA tol).2=0:=e;refine Br.mk (fun f=>?_) (fun f=>?_)
  ·have f:(kq l (tr x y) tol).2=0:=f;refine zb.t (zcH (kq l idA tol).1 ⟨x,y⟩ (zhy e).1 hp (zhy e).2) ?_;refine zb.t (zc9 _ _) ?_;refine Br.mk (fun q=>absurd (fm.2 e f) q) (fun _=>?_);clear e f;refine Br.mk (fun e=>?_) (fun e=>?_)
   ·have e:(jf l pen idA tol).2=0:=e;refine Br.mk (fun f=>?_) (fun f=>?_)
    ·have f:(jf l pen (tr x y) tol).2=0:=f;refine zb.t (zcH (jf l pen idA tol).1 ⟨x,y⟩ (sm.2 e).1 hp (zdn e)) ?_;refine zb.t (zc9 _ _) ?_;refine Br.mk (fun q=>absurd ((sm.2 e).2 f) q) (fun _=>?_);refine Br.mk (fun f0=>?_) (fun f0=>?_)
     ·clear f0;refine Br.mk (fun h0=>?_) (fun h0=>?_)
      ·refine zb.t zf ?_;exact .refl
      refine Br.mk (fun h1=>?_) (fun h1=>?_)
      ·refine zb.t zf ?_;exact .refl
      refine Br.mk (fun h2=>?_) (fun h2=>?_)
      ·refine zb.t zf ?_;exact .refl
      exact (sm.1.elim h0 fun h=>h.elim h1 h2).elim
     refine Br.mk (fun f1=>?_) (fun f1=>?_)
     ·clear f1;refine Br.mk (fun h0=>?_) (fun h0=>?_)
      ·refine zb.t zf ?_;exact .refl
      refine Br.mk (fun h1=>?_) (fun h1=>?_)
      ·refine zb.t zf ?_;exact .refl
      refine Br.mk (fun h2=>?_) (fun h2=>?_)
      ·refine zb.t zf ?_;exact .refl
      exact (sm.1.elim h0 fun h=>h.elim h1 h2).elim
     refine Br.mk (fun f2=>?_) (fun f2=>?_)
     ·clear f2;refine Br.mk (fun h0=>?_) (fun h0=>?_)
      ·refine zb.t zf ?_;exact .refl
      refine Br.mk (fun h1=>?_) (fun h1=>?_)
      ·refine zb.t zf ?_;exact .refl
      refine Br.mk (fun h2=>?_) (fun h2=>?_)
      ·refine zb.t zf ?_;exact .refl
      exact (sm.1.elim h0 fun h=>h.elim h1 h2).elim
     exact (fm.1.elim f0 fun h=>h.elim f1 f2).elim
    ·clear f;refine Br.mk (fun f0=>?_) (fun f0=>?_)
     ·clear f0;refine Br.mk (fun h0=>?_) (fun h0=>?_)
      ·refine zb.t zf ?_;exact .refl
      refine Br.mk (fun h1=>?_) (fun h1=>?_)
      ·refine zb.t zf ?_;exact .refl
      refine Br.mk (fun h2=>?_) (fun h2=>?_)
      ·refine zb.t zf ?_;exact .refl
      exact (sm.1.elim h0 fun h=>h.elim h1 h2).elim
     refine Br.mk (fun f1=>?_) (fun f1=>?_)
     ·clear f1;refine Br.mk (fun h0=>?_) (fun h0=>?_)
      ·refine zb.t zf ?_;exact .refl
      refine Br.mk (fun h1=>?_) (fun h1=>?_)
      ·refine zb.t zf ?_;exact .refl
      refine Br.mk (fun h2=>?_) (fun h2=>?_)
      ·refine zb.t zf ?_;exact .refl
      exact (sm.1.elim h0 fun h=>h.elim h1 h2).elim
     refine Br.mk (fun f2=>?_) (fun f2=>?_)
     ·clear f2;refine Br.mk (fun h0=>?_) (fun h0=>?_)
      ·refine zb.t zf ?_;exact .refl
      refine Br.mk (fun h1=>?_) (fun h1=>?_)
      ·refine zb.t zf ?_;exact .refl
      refine Br.mk (fun h2=>?_) (fun h2=>?_)
      ·refine zb.t zf ?_;exact .refl
      exact (sm.1.elim h0 fun h=>h.elim h1 h2).elim
     exact (fm.1.elim f0 fun h=>h.elim f1 f2).elim
   ·clear e;refine Br.mk (fun f0=>?_) (fun f0=>?_)
    ·clear f0;refine Br.mk (fun h0=>?_) (fun h0=>?_)
     ·refine zb.t zf ?_;exact .refl
     refine Br.mk (fun h1=>?_) (fun h1=>?_)
     ·refine zb.t zf ?_;exact .refl
     refine Br.mk (fun h2=>?_) (fun h2=>?_)
     ·refine zb.t zf ?_;exact .refl
     exact (sm.1.elim h0 fun h=>h.elim h1 h2).elim
    refine Br.mk (fun f1=>?_) (fun f1=>?_)
    ·clear f1;refine Br.mk (fun h0=>?_) (fun h0=>?_)
     ·refine zb.t zf ?_;exact .refl
     refine Br.mk (fun h1=>?_) (fun h1=>?_)
     ·refine zb.t zf ?_;exact .refl
     refine Br.mk (fun h2=>?_) (fun h2=>?_)
     ·refine zb.t zf ?_;exact .refl
     exact (sm.1.elim h0 fun h=>h.elim h1 h2).elim
    refine Br.mk (fun f2=>?_) (fun f2=>?_)
    ·clear f2;refine Br.mk (fun h0=>?_) (fun h0=>?_)
     ·refine zb.t zf ?_;exact .refl
     refine Br.mk (fun h1=>?_) (fun h1=>?_)
     ·refine zb.t zf ?_;exact .refl
     refine Br.mk (fun h2=>?_) (fun h2=>?_)
     ·refine zb.t zf ?_;exact .refl
     exact (sm.1.elim h0 fun h=>h.elim h1 h2).elim
    exact (fm.1.elim f0 fun h=>h.elim f1 f2).elim
  ·clear f;refine Br.mk (fun e=>?_) (fun e=>?_)
   ·have e:(jf l pen idA tol).2=0:=e;refine Br.mk (fun f=>?_) (fun f=>?_)
    ·have f:(jf l pen (tr x y) tol).2=0:=f;refine zb.t (zcH (jf l pen idA tol).1 ⟨x,y⟩ (sm.2 e).1 hp (zdn e)) ?_;refine zb.t (zc9 _ _) ?_;refine Br.mk (fun q=>absurd ((sm.2 e).2 f) q) (fun _=>?_);refine Br.mk (fun f0=>?_) (fun f0=>?_)
     ·clear f0;refine Br.mk (fun h0=>?_) (fun h0=>?_)
      ·refine zb.t zf ?_;exact .refl
      refine Br.mk (fun h1=>?_) (fun h1=>?_)
      ·refine zb.t zf ?_;exact .refl
      refine Br.mk (fun h2=>?_) (fun h2=>?_)
      ·refine zb.t zf ?_;exact .refl
      exact (sm.1.elim h0 fun h=>h.elim h1 h2).elim
     refine Br.mk (fun f1=>?_) (fun f1=>?_)
     ·clear f1;refine Br.mk (fun h0=>?_) (fun h0=>?_)
      ·refine zb.t zf ?_;exact .refl
      refine Br.mk (fun h1=>?_) (fun h1=>?_)
      ·refine zb.t zf ?_;exact .refl
      refine Br.mk (fun h2=>?_) (fun h2=>?_)
      ·refine zb.t zf ?_;exact .refl
      exact (sm.1.elim h0 fun h=>h.elim h1 h2).elim
     refine Br.mk (fun f2=>?_) (fun f2=>?_)
     ·clear f2;refine Br.mk (fun h0=>?_) (fun h0=>?_)
      ·refine zb.t zf ?_;exact .refl
      refine Br.mk (fun h1=>?_) (fun h1=>?_)
      ·refine zb.t zf ?_;exact .refl
      refine Br.mk (fun h2=>?_) (fun h2=>?_)
      ·refine zb.t zf ?_;exact .refl
      exact (sm.1.elim h0 fun h=>h.elim h1 h2).elim
     exact (fm.1.elim f0 fun h=>h.elim f1 f2).elim
    ·clear f;refine Br.mk (fun f0=>?_) (fun f0=>?_)
     ·clear f0;refine Br.mk (fun h0=>?_) (fun h0=>?_)
      ·refine zb.t zf ?_;exact .refl
      refine Br.mk (fun h1=>?_) (fun h1=>?_)
      ·refine zb.t zf ?_;exact .refl
      refine Br.mk (fun h2=>?_) (fun h2=>?_)
      ·refine zb.t zf ?_;exact .refl
      exact (sm.1.elim h0 fun h=>h.elim h1 h2).elim
     refine Br.mk (fun f1=>?_) (fun f1=>?_)
     ·clear f1;refine Br.mk (fun h0=>?_) (fun h0=>?_)
      ·refine zb.t zf ?_;exact .refl
      refine Br.mk (fun h1=>?_) (fun h1=>?_)
      ·refine zb.t zf ?_;exact .refl
      refine Br.mk (fun h2=>?_) (fun h2=>?_)
      ·refine zb.t zf ?_;exact .refl
      exact (sm.1.elim h0 fun h=>h.elim h1 h2).elim
     refine Br.mk (fun f2=>?_) (fun f2=>?_)
     ·clear f2;refine Br.mk (fun h0=>?_) (fun h0=>?_)
      ·refine zb.t zf ?_;exact .refl
      refine Br.mk (fun h1=>?_) (fun h1=>?_)
      ·refine zb.t zf ?_;exact .refl
      refine Br.mk (fun h2=>?_) (fun h2=>?_)
      ·refine zb.t zf ?_;exact .refl
      exact (sm.1.elim h0 fun h=>h.elim h1 h2).elim
     exact (fm.1.elim f0 fun h=>h.elim f1 f2).elim
   ·clear e;refine Br.mk (fun f0=>?_) (fun f0=>?_)
    ·clear f0;refine Br.mk (fun h0=>?_) (fun h0=>?_)
     ·refine zb.t zf ?_;exact .refl
     refine Br.mk (fun h1=>?_) (fun h1=>?_)
     ·refine zb.t zf ?_;exact .refl
     refine Br.mk (fun h2=>?_) (fun h2=>?_)
     ·refine zb.t zf ?_;exact .refl
     exact (sm.1.elim h0 fun h=>h.elim h1 h2).elim
    refine Br.mk (fun f1=>?_) (fun f1=>?_)
    ·clear f1;refine Br.mk (fun h0=>?_) (fun h0=>?_)
     ·refine zb.t zf ?_;exact .refl
     refine Br.mk (fun h1=>?_) (fun h1=>?_)
     ·refine zb.t zf ?_;exact .refl
     refine Br.mk (fun h2=>?_) (fun h2=>?_)
     ·refine zb.t zf ?_;exact .refl
     exact (sm.1.elim h0 fun h=>h.elim h1 h2).elim
    refine Br.mk (fun f2=>?_) (fun f2=>?_)
    ·clear f2;refine Br.mk (fun h0=>?_) (fun h0=>?_)
     ·refine zb.t zf ?_;exact .refl
     refine Br.mk (fun h1=>?_) (fun h1=>?_)
     ·refine zb.t zf ?_;exact .refl
     refine Br.mk (fun h2=>?_) (fun h2=>?_)
     ·refine zb.t zf ?_;exact .refl
     exact (sm.1.elim h0 fun h=>h.elim h1 h2).elim
    exact (fm.1.elim f0 fun h=>h.elim f1 f2).elim
 ·clear e;refine Br.mk (fun e=>?_) (fun e=>?_)
  ·have e:(jf l pen idA tol).2=0:=e;refine Br.mk (fun f=>?_) (fun f=>?_)
   ·have f:(jf l pen (tr x y) tol).2=0:=f;refine zb.t (zcH (jf l pen idA tol).1 ⟨x,y⟩ (sm.2 e).1 hp (zdn e)) ?_;refine zb.t (zc9 _ _) ?_;refine Br.mk (fun q=>absurd ((sm.2 e).2 f) q) (fun _=>?_);refine Br.mk (fun f0=>?_) (fun f0=>?_)
    ·clear f0;refine Br.mk (fun h0=>?_) (fun h0=>?_)
     ·refine zb.t zf ?_;exact .refl
     refine Br.mk (fun h1=>?_) (fun h1=>?_)
     ·refine zb.t zf ?_;exact .refl
     refine Br.mk (fun h2=>?_) (fun h2=>?_)
     ·refine zb.t zf ?_;exact .refl
     exact (sm.1.elim h0 fun h=>h.elim h1 h2).elim
    refine Br.mk (fun f1=>?_) (fun f1=>?_)
    ·clear f1;refine Br.mk (fun h0=>?_) (fun h0=>?_)
     ·refine zb.t zf ?_;exact .refl
     refine Br.mk (fun h1=>?_) (fun h1=>?_)
     ·refine zb.t zf ?_;exact .refl
     refine Br.mk (fun h2=>?_) (fun h2=>?_)
     ·refine zb.t zf ?_;exact .refl
     exact (sm.1.elim h0 fun h=>h.elim h1 h2).elim
    refine Br.mk (fun f2=>?_) (fun f2=>?_)
    ·clear f2;refine Br.mk (fun h0=>?_) (fun h0=>?_)
     ·refine zb.t zf ?_;exact .refl
     refine Br.mk (fun h1=>?_) (fun h1=>?_)
     ·refine zb.t zf ?_;exact .refl
     refine Br.mk (fun h2=>?_) (fun h2=>?_)
     ·refine zb.t zf ?_;exact .refl
     exact (sm.1.elim h0 fun h=>h.elim h1 h2).elim
    exact (fm.1.elim f0 fun h=>h.elim f1 f2).elim
   ·clear f;refine Br.mk (fun f0=>?_) (fun f0=>?_)
    ·clear f0;refine Br.mk (fun h0=>?_) (fun h0=>?_)
     ·refine zb.t zf ?_;exact .refl
     refine Br.mk (fun h1=>?_) (fun h1=>?_)
     ·refine zb.t zf ?_;exact .refl
     refine Br.mk (fun h2=>?_) (fun h2=>?_)
     ·refine zb.t zf ?_;exact .refl
     exact (sm.1.elim h0 fun h=>h.elim h1 h2).elim
    refine Br.mk (fun f1=>?_) (fun f1=>?_)
    ·clear f1;refine Br.mk (fun h0=>?_) (fun h0=>?_)
     ·refine zb.t zf ?_;exact .refl
     refine Br.mk (fun h1=>?_) (fun h1=>?_)
     ·refine zb.t zf ?_;exact .refl
     refine Br.mk (fun h2=>?_) (fun h2=>?_)
     ·refine zb.t zf ?_;exact .refl
     exact (sm.1.elim h0 fun h=>h.elim h1 h2).elim
    refine Br.mk (fun f2=>?_) (fun f2=>?_)
    ·clear f2;refine Br.mk (fun h0=>?_) (fun h0=>?_)
     ·refine zb.t zf ?_;exact .refl
     refine Br.mk (fun h1=>?_) (fun h1=>?_)
     ·refine zb.t zf ?_;exact .refl
     refine Br.mk (fun h2=>?_) (fun h2=>?_)
     ·refine zb.t zf ?_;exact .refl
     exact (sm.1.elim h0 fun h=>h.elim h1 h2).elim
    exact (fm.1.elim f0 fun h=>h.elim f1 f2).elim
  ·clear e;refine Br.mk (fun f0=>?_) (fun f0=>?_)
   ·clear f0;refine Br.mk (fun h0=>?_) (fun h0=>?_)
    ·refine zb.t zf ?_;exact .refl
    refine Br.mk (fun h1=>?_) (fun h1=>?_)
    ·refine zb.t zf ?_;exact .refl
    refine Br.mk (fun h2=>?_) (fun h2=>?_)
    ·refine zb.t zf ?_;exact .refl
    exact (sm.1.elim h0 fun h=>h.elim h1 h2).elim
   refine Br.mk (fun f1=>?_) (fun f1=>?_)
   ·clear f1;refine Br.mk (fun h0=>?_) (fun h0=>?_)
    ·refine zb.t zf ?_;exact .refl
    refine Br.mk (fun h1=>?_) (fun h1=>?_)
    ·refine zb.t zf ?_;exact .refl
    refine Br.mk (fun h2=>?_) (fun h2=>?_)
    ·refine zb.t zf ?_;exact .refl
    exact (sm.1.elim h0 fun h=>h.elim h1 h2).elim
   refine Br.mk (fun f2=>?_) (fun f2=>?_)
   ·clear f2;refine Br.mk (fun h0=>?_) (fun h0=>?_)
    ·refine zb.t zf ?_;exact .refl
    refine Br.mk (fun h1=>?_) (fun h1=>?_)
    ·refine zb.t zf ?_;exact .refl
    refine Br.mk (fun h2=>?_) (fun h2=>?_)
    ·refine zb.t zf ?_;exact .refl
    exact (sm.1.elim h0 fun h=>h.elim h1 h2).elim
   exact (fm.1.elim f0 fun h=>h.elim f1 f2).elim
theorem zuF(n:Int): -9 < n.tmod 9/\n.tmod 9 < 9:=by
 rcases tdm (m:=n) (n:=9) oM with h | h <;> omega
theorem zuG(n:Int): -9999 < n.tmod 9999/\n.tmod 9999 < 9999:=by
 rcases tdm (m:=n) (n:=9999) oM with h | h <;> omega
theorem zqe(rs:List (List Pt))(t:AF)(n:Nat)(h:zw6 rs n):(jh rs t).1.length<=n/\∀r∈(jh rs t).1,r.length<=n:=by
 unfold jh
 split
 ·exact ⟨Nat.zero_le _,fun r hr=>by cases hr⟩
 split
 ·exact ⟨Nat.zero_le _,fun r hr=>by cases hr⟩
 ·refine ⟨by rw [List.length_map];exact h.1,fun r hr=>?_⟩;obtain ⟨q,hq,rfl⟩:=List.mem_map.1 hr;have:=uK hq;have:=h.2;unfold vO;rw [List.length_map];omega
theorem zt8{rs:List (List Pt)}{n:Nat}(hn:n<=1000)(h:∀r∈rs,r.length<=n):∀r∈rs,(r.length:Int)<=9223372036854771711:=fun r hr=>by
 have:=h r hr;omega
theorem l_lawIdentity(rs:List (List Pt))(k0 k1 k2 k3:Int):zd Tryz.prog 7 [.sl zw rs,.agg [i64 k0,i64 k1,i64 k2,i64 k3]] [] (bl true) []:=by
 refine zc tok mix Tryz.func7 rfl rfl rfl ?_;refine zcV.own ?_;refine zb.t (zxm rs 100 dC) ?_;refine Br.mk (fun k=>?_) (fun k=>?_)
 ·refine zb.t zf ?_;exact .refl
 have k:zw6 rs 100:=Decidable.not_not.1 k;have hl:rs.length<=100000:=by have:=k.1;omega
 have hs:∀r∈rs,(r.length:Int)<=9223372036854771711:=fun r hr=>by have:=uK hr;have:=k.2;omega
 refine zb.t kI ?_;refine zb.t (zhu rs idA uy hl hs) ?_;refine zb.t (zle rs) ?_;refine Br.mk (fun v=>?_) (fun v=>?_)
 ·have v:¬qg rs:=v;rw [zaJ v];intro _;refine Br.mk (fun _=>?_) (fun h=>absurd rfl h);refine Br.mk (fun _=>?_) (fun h=>absurd rfl h);refine zb.t zf ?_;exact .refl
 have v:qg rs:=Decidable.not_not.1 v;rw [zeg v];refine zb.t (zc9 _ _) ?_;refine Br.mk (fun h=>absurd rfl h) (fun _=>?_);refine Br.mk (fun h=>absurd rfl h) (fun _=>?_);have ha:=zuF k0;have hd:=zuF k1;have hx:=zuG k2;have hy:=zuG k3;have ra:R64 (k0.tmod 9):=by unfold R64;omega
 have rd:R64 (k1.tmod 9):=by unfold R64;omega
 have rx:R64 (k2.tmod 9999):=by unfold R64;omega
 have ry:R64 (k3.tmod 9999):=by unfold R64;omega
 have z:=zaI
 have le:∀n:Int,R64 n->(ofQ (n:Rat)).len<=1000:=fun n h=>by
  have h1:=uF n;have h2:=jq h;rw [zJ];omega
 have sc:=zqc (ofQ (k0.tmod 9:Rat)) (ofQ (k1.tmod 9:Rat)) (le _ ra) (le _ rd);rw [kE,kE] at sc;have tl:=znv (a:=1) (b:=0) (c:=0) (d:=1) dC z z dC rx ry;have law:=zsP (l:=rs) ra rd rx ry;have ce:=zml ra rd rx ry;have sl:=znv ra z z rd z z;have ul:(v9 (it6 (k0.tmod 9) 0 0 (k1.tmod 9) 0 0) (tr (k2.tmod 9999) (k3.tmod 9999))).1.le 10:=by rw [ce];exact znv ra z z rd rx ry
 have tb:=zqe rs (it6 (k0.tmod 9) 0 0 (k1.tmod 9) 0 0) 100 k;refine Dr.d ?_;refine Dv.any (by omega:(9:Int)≠0) ?_;refine zb.t (jc (k0.tmod 9) ra) ?_;refine Dv.any (by omega:(9:Int)≠0) ?_;refine zb.t (jc (k1.tmod 9) rd) ?_;refine zb.t sc ?_;refine Dv.any (by omega:(9999:Int)≠0) ?_;refine Dv.any (by omega:(9999:Int)≠0) ?_;refine zb.t (zkm (k2.tmod 9999) (k3.tmod 9999) rx ry) ?_;refine Ob.mk (by kernel_rfl) ?_;refine ⟨AF,afE,[it6 (k0.tmod 9) 0 0 (k1.tmod 9) 0 0,tr (k2.tmod 9999) (k3.tmod 9999)],rfl,Ob.o0 ?_⟩
 refine zb.see 3 _ (zsI (it6 (k0.tmod 9) 0 0 (k1.tmod 9) 0 0) (tr (k2.tmod 9999) (k3.tmod 9999)) (sl.up dC) (AF.le.up (t:=tr _ _) tl dC)) rfl rfl rfl ?_;refine zb.t (zhu rs (it6 (k0.tmod 9) 0 0 (k1.tmod 9) 0 0) (sl.up dC) hl hs) ?_;refine zb.t (zhu (jh rs (it6 (k0.tmod 9) 0 0 (k1.tmod 9) 0 0)).1 (tr (k2.tmod 9999) (k3.tmod 9999)) (AF.le.up (t:=tr _ _) tl dC) oM (zt8 dC tb.2)) ?_;refine zb.t (zhu rs (v9 (it6 (k0.tmod 9) 0 0 (k1.tmod 9) 0 0) (tr (k2.tmod 9999) (k3.tmod 9999))).1 (ul.up dC) hl hs) ?_;refine Br.mk (fun _=>?_) (fun f=>?_)
 ·refine zb.t zf ?_;exact .refl
 have f:(jh rs (it6 (k0.tmod 9) 0 0 (k1.tmod 9) 0 0)).2=0:=Decidable.not_not.1 f;refine Br.mk (fun _=>?_) (fun g=>?_)
 ·refine zb.t zf ?_;exact .refl
 have g:=Decidable.not_not.1 g;refine Br.mk (fun _=>?_) (fun h=>?_)
 ·refine zb.t zf ?_;exact .refl
 have h:=Decidable.not_not.1 h;refine zb.t (zc9 _ _) ?_;refine Br.mk (fun _=>?_) (fun q=>absurd (law f g h) q);refine zb.t zf ?_;exact .refl
theorem zqf{α:Type}{l:List α}(h:(0:Int) < l.length):l≠[]:=fun e=>by rw [e] at h;simp at h
theorem l_lawInside(l:List Sg)(pen:Pen)(tol:Int):zd Tryz.prog 9 [.sl sgE l,.agg (yi pen),i64 tol] [] (bl true) []:=by
 refine zc tok mix Tryz.func9 rfl rfl rfl ?_;refine zb.t kI ?_;refine zb.t (zki l idA) ?_;refine Br.mk (fun k=>?_) (fun k=>?_)
 ·refine zb.t zf ?_;exact .refl
 have k:zhw l idA:=Decidable.not_not.1 k;intro hl;refine Br.mk (fun c=>?_) (fun c=>?_)
 ·refine zb.t zf ?_;exact .refl
 refine Dr.d ?_;refine zb.t kI ?_;refine zb.t (zcG l pen idA tol uy) ?_;refine Ob.mk (by kernel_rfl) ?_;refine zb.t (zeM l pen) ?_;refine Br.mk (fun e=>?_) (fun _=>?_)
 ·have e:(jf l pen idA tol).2=0:=e;intro hl2;refine Br.mk (fun p=>?_) (fun _=>?_)
  ·have si:=zhH e (zqf p);refine Br.mk (fun _=>?_) (fun q=>absurd si.1 q);refine zb.t (zef (jf l pen idA tol).1 (znm l pen) (znn l pen)) ?_;refine Br.mk (fun q=>absurd si.2 q) (fun _=>?_);refine zb.t kI ?_;refine zb.t (u6 l idA tol uy (by have:=k.2.1;omega)) ?_;refine zb.t (zcp l (by have:=k.2.1;omega)) ?_;refine Br.mk (fun _=>?_) (fun f=>?_)
   ·refine zb.t zf ?_;exact .refl
   have f:(kq l idA tol).2=0:=Decidable.not_not.1 f;intro hl3;refine Br.mk (fun _=>?_) (fun c=>?_)
   ·refine zb.t zf ?_;exact .refl
   have c:¬((kq l idA tol).1.length:Int)=0:=c;have fi:=zb9 f (fun e=>c (by rw [e];rfl));refine Br.mk (fun _=>?_) (fun q=>absurd fi.1 q);refine zb.t (zef (kq l idA tol).1 (zbo l) (zbp l)) ?_;refine Br.mk (fun _=>?_) (fun q=>absurd fi.2 q);refine zb.t zf ?_;exact .refl
  ·refine zb.t kI ?_;refine zb.t (u6 l idA tol uy (by have:=k.2.1;omega)) ?_;refine zb.t (zcp l (by have:=k.2.1;omega)) ?_;refine Br.mk (fun _=>?_) (fun f=>?_)
   ·refine zb.t zf ?_;exact .refl
   have f:(kq l idA tol).2=0:=Decidable.not_not.1 f;intro hl3;refine Br.mk (fun _=>?_) (fun c=>?_)
   ·refine zb.t zf ?_;exact .refl
   have c:¬((kq l idA tol).1.length:Int)=0:=c;have fi:=zb9 f (fun e=>c (by rw [e];rfl));refine Br.mk (fun _=>?_) (fun q=>absurd fi.1 q);refine zb.t (zef (kq l idA tol).1 (zbo l) (zbp l)) ?_;refine Br.mk (fun _=>?_) (fun q=>absurd fi.2 q);refine zb.t zf ?_;exact .refl
 ·refine zb.t kI ?_;refine zb.t (u6 l idA tol uy (by have:=k.2.1;omega)) ?_;refine zb.t (zcp l (by have:=k.2.1;omega)) ?_;refine Br.mk (fun _=>?_) (fun f=>?_)
  ·refine zb.t zf ?_;exact .refl
  have f:(kq l idA tol).2=0:=Decidable.not_not.1 f;intro hl3;refine Br.mk (fun _=>?_) (fun c=>?_)
  ·refine zb.t zf ?_;exact .refl
  have c:¬((kq l idA tol).1.length:Int)=0:=c;have fi:=zb9 f (fun e=>c (by rw [e];rfl));refine Br.mk (fun _=>?_) (fun q=>absurd fi.1 q);refine zb.t (zef (kq l idA tol).1 (zbo l) (zbp l)) ?_;refine Br.mk (fun _=>?_) (fun q=>absurd fi.2 q);refine zb.t zf ?_;exact .refl
end Go.Gs
namespace Go.Gs
open Go.Proofs Go.RowKit Go.Deep
theorem zwh{H:Type}{P:Program}{e:TypeId}:∀{l:List (DataW H)} {d:DataW H},d∈l->∀x∈d.weights P e,x∈DataW.weightsAll P e l
 | c::l,d,h,x,hx=>by
  rw [DataW.weightsAll]
  cases h with
  | head=>exact List.mem_append_left _ hx
  | tail _ h=>exact List.mem_append_right _ (zwh h x hx)
section
variable {H:Type} {enc:TypeId×Value->H} {W:World} {b0:Nat} {held:Bool}
theorem zwG {P:Program} {t e:TypeId} {α:Type} {en:α->List SV} {xs:List α} {fuel:Nat} {v:Value} {d:DataW H} {p:List MemPlace} {S:Nat->Prop} (hu:P.underlying t=some (.slice e)) (hn:P.cellsOf e=1)
  (h1:∀x∈xs,(en x).length=1) (h:DataW.trod enc P W 0 (fun _=>true) held fuel t [v]=some (d,p)) (g:D S W (.sl en xs) v):
  xs=[]∨∃(n m:Nat) (Dd:Nat->DataW H) (Pl:Nat->List MemPlace) (c:Nat->Value),d=.slice ((List.range xs.length).map Dd) ((List.range m).map fun j=>Dd (xs.length+j))/\
   ∀i x,xs[i]? =some x->DataW.trod enc P W 0 (fun _=>true) held n e [c i]=some (Dd i,Pl i)/\∀s,(en x)[0]? =some s->D S W s (c i):=by
 cases g with
 | nil _ a=>exact .inl rfl
 | sl _ _ sz b o cap c hb hS hlen hcap hsz hc hh=>
  rcases open_slice hu h with ⟨h0,_⟩ | ⟨a,len,cap',m,n,Dd,Pl,hcs,_,hl,hm,hmm,hx,hi⟩
  ·simp at h0
  ·simp only [List.cons.injEq,Value.slice.injEq,Option.some.injEq,and_true] at hcs;obtain ⟨rfl,rfl,rfl⟩:=hcs;rw [hn] at hi;refine .inr ⟨n,m - xs.length,Dd,Pl,fun i=>c i 0,congrArg Prod.fst hx,fun i x hxi=>?_⟩;have hlt:i < xs.length:=(List.getElem?_eq_some_iff.1 hxi).1;have e1:sz=1:=by rw [← hsz x (List.mem_of_getElem? hxi),h1 x (List.mem_of_getElem? hxi)]
   subst e1;obtain ⟨cs',hcs',ht⟩:=hi i (by rw [hmm];split <;> omega);obtain ⟨_,hcl,hat⟩:=World.cells?_some hcs';have ha:=hat 0 dC;have hb:=(hc i 0 hlt dC).1
   have e:cs'=[c i 0]:=by
    match cs',hcl with
    | [y],_=>
     have ha:W.cell? (((⟨b,o,none⟩:Addr).add (i*1)).add 0)=some y:=ha;rw [jN,jN,hb] at ha;rw [Option.some.inj ha]
   rw [e] at ht;exact ⟨ht,fun s hs=>hh i 0 x s hxi hs⟩
theorem zw8 {P:Program} {t e:TypeId} {α:Type} {en:α->List SV} {xs:List α} {fuel:Nat} {v:Value} {d:DataW H} {p:List MemPlace} {S:Nat->Prop} (hu:P.underlying t=some (.slice e))
  (h:DataW.trod enc P W 0 (fun _=>true) held fuel t [v]=some (d,p)) (g:D S W (.sl en xs) v):xs=[]∨∃el sp,d=.slice el sp/\el.length=xs.length:=by
 cases g with
 | nil _ a=>exact .inl rfl
 | sl _ _ sz b o cap c hb hS hlen hcap hsz hc hh=>
  rcases open_slice hu h with ⟨h0,_⟩ | ⟨a,len,cap',m,n,Dd,Pl,hcs,_,hl,hm,hmm,hx,hi⟩
  ·simp at h0
  ·simp only [List.cons.injEq,Value.slice.injEq,Option.some.injEq,and_true] at hcs;obtain ⟨rfl,rfl,rfl⟩:=hcs;exact .inr ⟨_,_,congrArg Prod.fst hx,by simp⟩
theorem rings_short {l:List (List Pt)} {v:Value} {d:DataW H} {p:List MemPlace} {S:Nat->Prop} (h:DataW.Trod enc Tryz.prog W 0 (fun _=>true) held 34 v d p)
  (g:D S W (.sl zw l) v) (hw:∀x∈d.weights Tryz.prog 34,x<=reachBytes):∀r∈l,(r.length:Int)<=9223372036854771711:=by
 obtain ⟨fuel,hf⟩:=h;have hv:v.cells.toList=[v]:=by cases g <;> rfl
 rw [hv] at hf;intro r hr
 rcases zwG Tryz.underlying34 (by kernel_rfl) (fun _ _=>rfl) hf g with rfl | ⟨n,m,Dd,Pl,c,rfl,hi⟩
 ·cases hr
 ·obtain ⟨i,hlt,hri⟩:=List.getElem_of_mem hr;have hx:l[i]? =some r:=by rw [List.getElem?_eq_getElem hlt,hri]
  obtain ⟨ht,hd⟩:=hi i r hx
  rcases zw8 Tryz.underlying76 ht (hd _ rfl) with e | ⟨el,sp,e,hl⟩
  ·rw [e];decide
  ·rw [DataW.weights,Tryz.underlying34] at hw
   have k:=hw ((el.length+sp.length)*Tryz.prog.bytesOf 52) (.tail _ (List.mem_append_left _ (zwh (d:=Dd i) (List.mem_map.2 ⟨i,List.mem_range.2 hlt,rfl⟩) _ (by
    rw [e,DataW.weights,Tryz.underlying76]
    exact .head _))))
   have hb:Tryz.prog.bytesOf 52=16:=by kernel_rfl
   rw [hb] at k;unfold reachBytes at k;omega
end
end Go.Gs
