/- Outlines: the examples. -/
import Derived.Test.YtbgnkgoiocjbnaaGreatMA
import Derived.Test.YtbgnkgoiocjbnaaGreatMBW
import Derived.Test.YtbgnkgoiocjbnaaGreatMBD
import Derived.Test.YtbgnkgoiocjbnaaGreatMBS
import Derived.Test.YtbgnkgoiocjbnaaGreatChecked
set_option maxRecDepth 100000
set_option maxHeartbeats 8000000
set_option linter.all false
namespace Go.Gs
open Go.Proofs
def zp9:Pen:=⟨256,1,4,1024,[],0⟩
def zbm:List Sg:=[⟨1,zp,zp,zp⟩,⟨2,⟨512,0⟩,zp,zp⟩]
def penY:Pen:=⟨256,2,4,256,[],0⟩
theorem zsK:zkc zbm penY/\znm zbm penY=⟨-258,-258⟩/\znn zbm penY=⟨770,258⟩:=by decide +kernel
theorem x_ofs:(zkd [[zp,⟨512,0⟩,⟨0,512⟩]] 64).2=0/\(zkd [[zp,⟨512,0⟩,⟨0,512⟩]] 64).1.length=7:=by decide +kernel
theorem zsL:(kq (zbi 0 0 1 1) idA 32).2=0/\(kq (zbi 0 0 1 1) idA 32).1.map List.length=[4]:=by decide +kernel
theorem zmj:(jf zbm zp9 idA 32).2=0/\(jf zbm zp9 idA 32).1.map List.length=[4]:=by decide +kernel
theorem zt3:(kq (zbi 0 0 1 1) idA 0).2=2:=by decide +kernel
theorem zvK:(jf zbm zp9 idA 32).1.map (fun r=>r.headD zp)=[⟨0,-128⟩]:=by decide +kernel
theorem uy:idA.le 100000:=by
 have h:=znr;unfold AF.le at*;omega
def penN(p:Pen):List SV:=[i64 p.w,i64 p.j,i64 p.c,i64 p.m,.val (.slice none 0 0),i64 p.ph]
theorem zoM{p:Pen}(h:p.d=[]):LE (.agg (penN p)) (.agg (yi p)):=by
 refine jJ (.cons .refl (.cons .refl (.cons .refl (.cons .refl (.cons ?_ (.cons .refl .nil))))));rw [h];exact ku
theorem zi2(l:List Sg)(pen:Pen)(t:AF)(tol:Int)(ht:t.le 100000)(h:pen.d=[]):zd Tryz.prog 16 [.sl sgE l,.agg (penN pen),.agg (afE t),i64 tol] [] (rgE (jf l pen t tol)) []:=
 (zcG l pen t tol ht).args (.cons .refl (.cons (zoM h) LEs.refl))
theorem zns(l:List Sg)(pen:Pen)(h:pen.d=[]):zd Tryz.prog 29 [.sl sgE l,.agg (penN pen)] [] (sbE l pen) []:=
 (zeM l pen).args (.cons .refl (.cons (zoM h) .nil))
theorem zd.nest {P:Program} {f:FuncId} {n:Int} {r:SV} {T T':TypeId} {sz:Nat} {α:Type} {enc:α->List SV} {xs:List α} (hr:zeO r=true)
  (h:zd P f [.sl (fun y=>[SV.sl enc y]) [xs],i64 n] [] r []):zd P f [.own 0,i64 n] [(0,.garr T 1 [[.own 1]]),(1,.arr T' enc sz xs)] r []:=by
 refine ⟨h.1,fun Keep ρ w vs hk hm hρ hg=>?_⟩;obtain ⟨v0,vs1,rfl,g0,hg1⟩:=hg.cons_inv;obtain ⟨v1,vs2,rfl,g1,hg2⟩:=hg1.cons_inv;have e2:vs2=[]:=List.eq_nil_of_length_eq_zero hg2.1;subst e2;have e1:=g1.val_inv;subst e1;obtain ⟨hρ0,_⟩:=g0.own_inv;obtain ⟨v,cells,e0,hown,hlen,hone,hsz,hcells⟩:=hm.rel 0 _ (.head _);rw [hρ0] at e0;cases e0
 obtain ⟨u,hu,gu⟩:=hcells 0 0 [.own 1] (.own 1) rfl rfl;obtain ⟨hρ1,_⟩:=gu.own_inv;have d1:D Keep w (.sl enc xs) u:=zeQ hm (k:=1) (.tail _ (.head _)) (fun b hb=>.inl hb) (fun v b hv hb hk=>(hm.old b ⟨1,_,v,.tail _ (.head _),hv,hb⟩).2 hk) hρ1
 have d0:D Keep w (.sl (fun y=>[SV.sl enc y]) [xs]) v0:=by
  rcases hown.2 with ⟨rfl,h0⟩ | ⟨g,cap,cur,rfl,_,hheap,hnc,hcm,hcs,htake⟩
  ·exact absurd h0 dC
  ·have ho:=hm.old g ⟨0,_,_,.head _,hρ0,rfl⟩;refine .sl (fun y=>[SV.sl enc y]) [xs] 1 g 0 cap (fun i j=>(cells[i*1+j]?).getD undef) ho.1 ho.2 (show 1<=9223372036854775807 by decide) hnc (fun x _=>rfl) ?_ ?_
   ·intro i j hi hj;have hi:i < 1:=hi;have e:i=0:=oM;have e':j=0:=oM;subst e;subst e';rw [show (0*1+0:Nat)=0*1+0 from rfl,hu];refine ⟨?_,hone u (List.mem_of_getElem? hu)⟩;have:=vm hheap htake hu
    simpa [Nat.zero_add] using this
   ·intro i j x s hx hs
    match i,j,hx,hs with
    | 0,0,hx,hs=>
     cases hx
     cases hs
     rw [hu];exact d1
    | 0,j+1,hx,hs=>cases hx;cases hs
    | i+1,j,hx,hs=>cases hx
 refine (h.2 Keep (fun _=>none) w [v0,.int .i64 n] hk (qm hm.kp) (fun _ _=>rfl) (.cons (.d _ _ ?_) (.cons (.d _ _ (.val _)) .nil))).mono fun _ _ ⟨v,ρ',e,hs,hm',hgr⟩=>?_
 ·exact d0.less fun b hb=>hb.resolve_right zP
 ·refine ⟨v,ρ,e,⟨hs.os,hs.tape,hs.output,hs.size,fun b hb _=>hs.block b hb zP,fun b hb=>absurd hb zP,fun _ _ h=>h⟩,qm hm'.kp,?_⟩;exact zdy (fun b hb=>.inl (hb.resolve_right zP)) hr hgr
def penZ:Pen:=⟨0,0,0,0,[],0⟩
def zsM:List Sg:=[⟨9,zp,zp,zp⟩]
def triL:List (List Pt):=[[zp,⟨512,0⟩,⟨0,512⟩]]
theorem zqa:(jf (zbi 0 0 1 1) penZ idA 0).2=13:=by decide +kernel
theorem zt4:(kq zsM vP 0).2=10:=by decide +kernel
theorem znt:vP.le 100000:=by decide +kernel
theorem one4{L:List (List Pt)}(h:L.map List.length=[4]):∃r,L=[r]/\r.length=4:=by
 cases L with
 | nil=>cases h
 | cons r t=>
  have h1:=List.cons.inj h;have e:t=[]:=List.map_eq_nil_iff.1 h1.2;exact ⟨r,by rw [e],h1.1⟩
theorem zf:zd Tryz.prog 12 [] [] (bl true) []:=by
 refine zc tok mix Tryz.func12 rfl rfl rfl ?_;refine zb.t (zlb 0 0 1 1) ?_;refine zb.t kI ?_;refine zb.t (u6 (zbi 0 0 1 1) idA 32 uy (by decide +kernel)) ?_;refine Dr.d ?_;refine ⟨Sg,sgE,zbm,rfl,Ob.o0 ?_⟩;refine zb.t kI ?_;refine zb.see 1 _ (zi2 zbm zp9 idA 32 uy rfl) rfl rfl rfl ?_;refine Ob.mk (by kernel_rfl) ?_;refine zb.t kI ?_;refine zb.t (u6 (zbi 0 0 1 1) idA 0 uy (by decide +kernel)) ?_;refine zb.t kI ?_;refine zb.t (zi2 (zbi 0 0 1 1) penZ idA 0 uy rfl) ?_;refine ⟨Sg,sgE,zsM,rfl,Ob.o0 ?_⟩
 refine zb.see 2 _ ((u6 zsM vP 0 znt dC).args (.cons .refl (.cons zi0 LEs.refl))) rfl rfl rfl ?_;refine ⟨Sg,sgE,zbm,rfl,Ob.o0 ?_⟩;refine zb.see 3 _ (zns zbm penY rfl) rfl rfl rfl ?_;refine ⟨Pt,ptE,[zp,⟨512,0⟩,⟨0,512⟩],rfl,Ob.o0 ?_⟩;refine ⟨[[.own 6]],rfl,Ob.o7 ?_⟩
 refine zb.give [7,6] 0 [.own 0,i64 64] [(0,.garr 76 1 [[.own 1]]),(1,.arr 52 ptE 2 [zp,⟨512,0⟩,⟨0,512⟩])] [] (rgE (zkd triL 64))
  (zd.nest rfl (zxC triL 64 dC fun r hr=>by rw [List.mem_singleton.1 hr];decide)) LEs.refl rfl rfl rfl ⟨⟨_,rfl,rfl,fun x hx=>by rw [List.mem_singleton.1 hx];rfl⟩,⟨_,rfl,rfl,trivial⟩,trivial⟩ rfl trivial ?_
 have ob:=zsK;have oo:=x_ofs;obtain ⟨r,hr,hr4⟩:=one4 zsL.2;obtain ⟨s,hs,hs4⟩:=one4 zmj.2;have h0:=zvK;rw [hs] at h0;refine Br.mk (fun k=>absurd ob.1 k) (fun _=>?_);refine Br.mk (fun k=>absurd (qx.2 ob.2.1) k) (fun _=>?_);refine Br.mk (fun k=>absurd (qx.2 ob.2.2) k) (fun _=>?_);refine Br.mk (fun k=>absurd oo.1 k) (fun _=>?_);intro hl0;refine Br.mk (fun k=>absurd (congrArg Int.ofNat oo.2) k) (fun _=>?_);intro hl1;refine Br.mk (fun _=>?_) (fun k=>absurd (by rw [hr];rfl) k);refine Ob.mk (by rw [hr];exact ⟨dC,by show (0:Int) < 1;decide⟩) ?_
 intro x hx;have hx:(kq (zbi 0 0 1 1) idA 32).1[0]? =some x:=hx;rw [hr] at hx;have hx:x.length=4:=by rw [← Option.some.inj hx];exact hr4
 intro hl2;refine Br.mk (fun _=>?_) (fun k=>absurd (congrArg Int.ofNat hx) k);refine Br.mk (fun _=>?_) (fun k=>absurd zsL.1 k);intro hl3;refine Br.mk (fun _=>?_) (fun k=>absurd (by rw [hs];rfl) k);refine Ob.mk (by rw [hs];exact ⟨dC,by show (0:Int) < 1;decide⟩) ?_;intro y hy;have hy:(jf zbm zp9 idA 32).1[0]? =some y:=hy;rw [hs] at hy;have ey:y=s:=(Option.some.inj hy).symm;have hy:y.length=4:=by rw [ey];exact hs4
 intro hl4;refine Br.mk (fun _=>?_) (fun k=>absurd (congrArg Int.ofNat hy) k);refine Ob.mk (by rw [hs];exact ⟨dC,by show (0:Int) < 1;decide⟩) ?_;intro z hz;have hz:(jf zbm zp9 idA 32).1[0]? =some z:=hz;rw [hs] at hz;have ez:z=s:=(Option.some.inj hz).symm;refine Ob.mk (by rw [ez,hs4];decide) ?_;intro p hp;have hp:z[0]? =some p:=hp
 have ep:p=⟨0,-128⟩:=by
  rw [ez] at hp
  cases s with
  | nil=>cases hp
  | cons q t=>cases hp;exact (List.cons.inj h0).1
 refine Br.mk (fun _=>?_) (fun k=>absurd (qx.2 ep) k);refine Br.mk (fun _=>?_) (fun k=>absurd zmj.1 k);refine Br.mk (fun _=>?_) (fun k=>absurd zt3 k);refine Br.mk (fun _=>?_) (fun k=>absurd zqa k);exact zqG zt4
theorem zsN:idA=tr 0 0:=rfl
theorem zaI:R64 0:=dC
theorem zoN{x y:Int}(hx:R64 x)(hy:R64 y):∀{l:List Pt},(∀p∈l,zo p)->(zaH (tr x y) l=0/\∀p∈l,zo (sh x y p))∨zaH (tr x y) l=6
 | [],_=>.inl ⟨rfl,fun p h=>by cases h⟩
 | p::r,h=>by
  unfold zaH;rw [zcy hx hy (h p (.head _))]
  by_cases k:zo (sh x y p)
  ·rw [if_pos k,kF rfl]
   rcases zoN hx hy (l:=r) (fun q hq=>h q (.tail _ hq)) with ⟨e,a⟩ | e
   ·exact .inl ⟨e,fun q hq=>by
     cases hq with
     | head=>exact k
     | tail _ hq=>exact a q hq⟩
   ·exact .inr e
  ·rw [if_neg k];exact .inr (if_pos dC)
theorem zoO{x y:Int}(hx:R64 x)(hy:R64 y):∀{l:List (List Pt)},(∀r∈l,∀p∈r,zo p)->(zb7 (tr x y) l=0/\∀r∈l,∀p∈r,zo (sh x y p))∨zb7 (tr x y) l=6
 | [],_=>.inl ⟨rfl,fun p h=>by cases h⟩
 | r::s,h=>by
  unfold zb7
  rcases zoN hx hy (l:=r) (h r (.head _)) with ⟨e,a⟩ | e
  ·rw [kF e]
   rcases zoO hx hy (l:=s) (fun q hq=>h q (.tail _ hq)) with ⟨e',a'⟩ | e'
   ·exact .inl ⟨e',fun q hq=>by
     cases hq with
     | head=>exact a
     | tail _ hq=>exact a' q hq⟩
   ·exact .inr e'
  ·rw [if_pos (by rw [e];decide)];exact .inr e
theorem zoP{x y:Int}(hx:R64 x)(hy:R64 y){l:List Pt}(h:∀p∈l,zo p)(k:∀p∈l,zo (sh x y p)):vO (tr x y) l=l.map (sh x y):=by
 unfold vO;refine List.map_congr_left fun p hp=>?_
 rw [zcy hx hy (h p hp),if_pos (k p hp)]
theorem zsO{x y:Int}(hx:R64 x)(hy:R64 y){rs:List (List Pt)}(h:qg rs):
  (jh rs (tr x y)=(rs.map (List.map (sh x y)),0)/\∀r∈rs,∀p∈r,zo (sh x y p))∨jh rs (tr x y)=([],6):=by
 unfold jh;rw [zV h]
 rcases zoO hx hy h.2 with ⟨e,a⟩ | e
 ·rw [kF e];refine .inl ⟨Prod.ext (List.map_congr_left fun r hr=>zoP hx hy (h.2 r hr) (a r hr)) rfl,a⟩
 ·rw [if_pos (by rw [e];decide),e];exact .inr rfl
theorem zaJ{rs:List (List Pt)}{t:AF}(h:¬qg rs):jh rs t=([],12):=by unfold jh;rw [if_pos h]
theorem zeg{rs:List (List Pt)}(h:qg rs):jh rs idA=(rs,0):=by
 have e:∀l:List Pt,l.map (sh 0 0)=l:=fun l=>by
  rw [show sh 0 0=id from funext zcz,List.map_id]
 unfold jh
 have a:zb7 (tr 0 0) rs=0:=by
  refine zkg fun r hr=>zfG fun p hp=>?_
  rw [zcy zaI zaI (h.2 r hr p hp),zcz,if_pos (h.2 r hr p hp)]
 rw [zV h,zsN,kF a];refine Prod.ext ?_ rfl;show rs.map (vO (tr 0 0))=rs
 have:∀r∈rs,vO (tr 0 0) r=id r:=fun r hr=>by
  rw [zoP zaI zaI (h.2 r hr) (fun p hp=>by rw [zcz];exact h.2 r hr p hp),e];rfl
 rw [List.map_congr_left this,List.map_id]
theorem zkj(l:List Sg)(pen:Pen)(tol:Int):(∃e:Int,e≠0/\∀t,jf l pen t tol=([],e))∨
  (k8 pen/\(zI l tol).2=0/\(qF (zI l tol).1 pen).2=0/\(kQ (qF (zI l tol).1 pen).1 pen).2=0/\∀t,jf l pen t tol=jh (kQ (qF (zI l tol).1 pen).1 pen).1 t):=by
 by_cases k:k8 pen
 rotate_left
 ·exact .inl ⟨13,dC,fun t=>by unfold jf;rw [if_pos k]⟩
 by_cases e1:(zI l tol).2=0
 rotate_left
 ·exact .inl ⟨_,e1,fun t=>by unfold jf;rw [zV k,if_pos e1]⟩
 by_cases e2:(qF (zI l tol).1 pen).2=0
 rotate_left
 ·exact .inl ⟨_,e2,fun t=>by unfold jf;rw [zV k,kF e1,if_pos e2]⟩
 by_cases e3:(kQ (qF (zI l tol).1 pen).1 pen).2=0
 rotate_left
 ·exact .inl ⟨_,e3,fun t=>by unfold jf;rw [zV k,kF e1,kF e2,if_pos e3]⟩
 ·exact .inr ⟨k,e1,e2,e3,fun t=>by unfold jf;rw [zV k,kF e1,kF e2,kF e3]⟩
theorem zkk{l:List Sg}{pen:Pen}{x y tol:Int}(hx:R64 x)(hy:R64 y):
  ((jf l pen (tr x y) tol).2=0∨(jf l pen (tr x y) tol).2=(jf l pen idA tol).2∨(jf l pen (tr x y) tol).2=6)/\
  ((jf l pen idA tol).2=0->qg (jf l pen idA tol).1/\((jf l pen (tr x y) tol).2=0->(jf l pen (tr x y) tol).1=(jf l pen idA tol).1.map (List.map (sh x y)))):=by
 rcases zkj l pen tol with ⟨e,he,h⟩ | ⟨_,_,_,_,h⟩
 ·rw [h,h];exact ⟨.inr (.inl rfl),fun k=>absurd k he⟩
 ·rw [h,h];generalize (kQ (qF (zI l tol).1 pen).1 pen).1=rs
  by_cases k:qg rs
  ·rw [zeg k]
   rcases zsO hx hy k with ⟨e,_⟩ | e
   ·rw [e];exact ⟨.inl rfl,fun _=>⟨k,fun _=>rfl⟩⟩
   ·rw [e];exact ⟨.inr (.inr rfl),fun _=>⟨k,fun k=>absurd k dC⟩⟩
  ·rw [zaJ k,zaJ k];exact ⟨.inr (.inl rfl),fun k=>absurd k dC⟩
theorem zi3{l:List Sg}(hv:qK l):∀p∈zY l,inB (zbo l) (zbp l) p:=fun p hp=>by
 unfold zbo zbp;rw [if_pos hv,if_pos hv];have h:=zvn hp;exact ⟨⟨h.1.1,h.2.1⟩,h.1.2,h.2.2⟩
theorem zhx{l:List Sg}{tol:Int}(h0:(zI l tol).2=0)(h:zY l=[]):(zI l tol).1=[]:=by
 have f:=uH (lo:=⟨1,1⟩) (hi:=⟨0,0⟩) h0 (fun p hp=>by rw [h] at hp;cases hp);refine List.eq_nil_iff_forall_not_mem.2 fun q hq=>?_
 obtain ⟨g1,_,g3⟩:=f.2.2.2 q hq;obtain ⟨z,hz⟩:=List.exists_mem_of_ne_nil _ g1;have:=(g3 z hz).1;dsimp only at this;omega
theorem zoQ{l:List Sg}{tol:Int}(h0:(kq l idA tol).2=0):qK l/\(zI l tol).2=0/\kg idA l=(l,0)/\kq l idA tol=(qS (zI l tol).1,0):=by
 by_cases hv:qK l
 ·have t0:kg idA l=(l,0):=by
   have:=zlE (x:=0) (y:=0) dC dC hv (fun p hp=>by rw [zcz];exact zah hv p hp)
   rwa [zlF] at this
  have e:kq l idA tol=if (zI l tol).2≠0 then ([],(zI l tol).2) else (qS (zI l tol).1,0):=by
   unfold kq;rw [t0,kF rfl]
  by_cases h2:(zI l tol).2=0
  ·rw [kF h2] at e;exact ⟨hv,h2,t0,e⟩
  ·rw [e,if_pos h2] at h0;exact absurd h0 h2
 ·have e1:kg idA l=([],10):=by unfold kg;rw [if_pos hv]
  unfold kq at h0;rw [e1,if_pos dC] at h0;exact absurd h0 dC
theorem zb9{l:List Sg}{tol:Int}(h0:(kq l idA tol).2=0)(hne:(kq l idA tol).1≠[]):zbR l/\zsJ (kq l idA tol).1 (zbo l) (zbp l):=by
 obtain ⟨hv,h2,t0,e⟩:=zoQ h0;refine ⟨⟨hv,fun k=>hne ?_⟩,(zgV h0 (by rw [t0];exact zi3 hv)).2⟩;rw [e,zhx h2 k];rfl
theorem zmk{lo hi:Pt}{pen:Pen}:∀{l:List Pl},(∀p∈l,∀z∈p.pts,inB lo hi z)->∀q∈(qF l pen).1,∀z∈q.pts,inB lo hi z
 | [],_,q,hq=>by cases hq
 | p::r,h,q,hq=>by
  unfold qF at hq
  split at hq
  ·cases hq
  split at hq
  ·cases hq
  ·rcases List.mem_append.1 hq with hq | hq
   ·exact zrP (h p (.head _)) q hq
   ·exact zmk (fun x hx=>h x (.tail _ hx)) q hq
theorem zhH{l:List Sg}{pen:Pen}{tol:Int}(h0:(jf l pen idA tol).2=0)(hne:(jf l pen idA tol).1≠[]):zkc l pen/\zsJ (jf l pen idA tol).1 (znm l pen) (znn l pen):=by
 rcases zkj l pen tol with ⟨e,he,h⟩ | ⟨hk,h1,h2,h3,h⟩
 ·rw [h] at h0;exact absurd h0 he
 rw [h] at h0 hne ⊢
 have ro:qg (kQ (qF (zI l tol).1 pen).1 pen).1:=by
  refine Decidable.not_not.1 fun k=>?_
  rw [zaJ k] at h0;exact absurd h0 dC
 rw [zeg ro] at hne ⊢;have hv:qK l:=(uH (lo:=⟨-1048576,-1048576⟩) (hi:=⟨1048576,1048576⟩) h1 (fun p hp=>?_)).1;rotate_left
 ·by_cases v:qK l
  ·exact zah v p hp
  ·unfold zI at h1;rw [if_pos v] at h1;exact absurd h1 dC
 have ha:zY l≠[]:=fun k=>hne (by
  rw [zhx h1 k];show (kQ [] pen).1=[];unfold kQ
  split
  ·rfl
  split
  ·rfl
  split
  ·rfl
  ·rfl)
 have ok:zkc l pen:=⟨hk,hv,ha⟩;refine ⟨ok,fun r hr p hp=>?_⟩;have f:=uH h1 (zi3 hv);have g:=zlJ (zmk (pen:=pen) fun p hp z hz=>(f.2.2.2 p hp).2.2 z hz) r hr p hp;unfold znm znn;rw [if_pos ok,if_pos ok];exact g
def it6(a b c d e f:Int):AF:=afQ (a:Rat) (b:Rat) (c:Rat) (d:Rat) (e:Rat) (f:Rat)
theorem znu{a b c d e f:Int}(ha:R64 a)(hb:R64 b)(hc:R64 c)(hd:R64 d)(he:R64 e)(hf:R64 f):(it6 a b c d e f).ok:=by
 have a1:=jT ha;have a2:=jT hb;have a3:=jT hc;have a4:=jT hd;have a5:=jT he;have a6:=jT hf;unfold AF.ok;simp only [okI,AF.nth,it6,afQ,kE,true_and];exact ⟨⟨⟨⟨⟨a1,a2⟩,a3⟩,a4⟩,a5⟩,a6⟩
theorem znv{a b c d e f:Int}(ha:R64 a)(hb:R64 b)(hc:R64 c)(hd:R64 d)(he:R64 e)(hf:R64 f):(it6 a b c d e f).le 10:=by
 have k:∀n:Int,R64 n->(ofQ (n:Rat)).len<=10:=fun n h=>by
  have h1:=uF n;have h2:=jq h;rw [zJ];omega
 exact ⟨k a ha,k b hb,k c hc,k d hd,k e he,k f hf⟩
theorem zxT:((1:Int):Rat)=1:=rfl
theorem zkl:((0:Int):Rat)=0:=rfl
theorem zt5{t:AF}{p:Pt}{X Y:Int}(h1:jX t p.x p.y=(X:Rat))(h2:jY t p.x p.y=(Y:Rat)):goP t p=⟨X,Y⟩:=by
 have h:∀a:Int,((a:Rat)+Rat.divInt 1 2).floor=a:=fun a=>by
  rw [Rat.add_comm,Rat.floor_add_intCast,show (Rat.divInt 1 2).floor=0 by decide +kernel,Int.zero_add]
 unfold goP;rw [h1,h2,h,h]
theorem zoR(a d e f:Int)(p:Pt):goP (it6 a 0 0 d e f) p=⟨a*p.x+e,d*p.y+f⟩:=by
 refine zt5 ?_ ?_
 ·unfold jX it6 afQ;simp only [kE];rw [Rat.intCast_add,Rat.intCast_mul,zkl,Rat.zero_mul,Rat.add_zero]
 ·unfold jY it6 afQ;simp only [kE];rw [Rat.intCast_add,Rat.intCast_mul,zkl,Rat.zero_mul,Rat.zero_add]
theorem zvL(a d:Int):beh idA (it6 a 0 0 d 0 0)=it6 a 0 0 d 0 0:=by
 unfold beh jX jY it6 idA afQ;simp only [kE,zxT,zkl,Rat.mul_one,Rat.mul_zero,Rat.zero_mul,Rat.add_zero,Rat.zero_add]
theorem zvM(a d x y:Int):beh (it6 a 0 0 d 0 0) (tr x y)=it6 a 0 0 d x y:=by
 unfold beh jX jY it6 tr afQ;simp only [kE,zxT,zkl,Rat.mul_one,Rat.one_mul,Rat.mul_zero,Rat.zero_mul,Rat.add_zero,Rat.zero_add]
theorem zml{a d x y:Int}(ha:R64 a)(hd:R64 d)(hx:R64 x)(hy:R64 y):v9 (it6 a 0 0 d 0 0) (tr x y)=(it6 a 0 0 d x y,0):=by
 have z:=zaI;unfold v9;rw [zV (znu ha z z hd z z),zV (zut hx hy),zvL,zvM,zV (znu ha z z hd z z),zV (znu ha z z hd hx hy)]
theorem zqb{t:AF}{p:Pt}(h:(kt t p).2=0):(kt t p).1=goP t p:=by
 unfold kt at h ⊢
 by_cases h1:t.ok
 ·rw [zV h1] at h ⊢
  by_cases h2:zo p
  ·rw [zV h2] at h ⊢
   by_cases h3:zo (goP t p)
   ·rw [if_pos h3]
   ·rw [if_neg h3] at h;exact absurd h dC
  ·rw [if_pos h2] at h;exact absurd h dC
 ·rw [if_pos h1] at h;exact absurd h dC
theorem zi4{t:AF}:∀{l:List Pt},zaH t l=0->∀p∈l,(kt t p).2=0
 | p::r,h,q,hq=>by
  unfold zaH at h
  by_cases k:(kt t p).2=0
  ·rw [kF k] at h
   cases hq with
   | head=>exact k
   | tail _ hq=>exact zi4 h q hq
  ·rw [if_pos k] at h;exact absurd h k
theorem zi5{t:AF}:∀{l:List (List Pt)},zb7 t l=0->∀r∈l,zaH t r=0
 | p::r,h,q,hq=>by
  unfold zb7 at h
  by_cases k:zaH t p=0
  ·rw [kF k] at h
   cases hq with
   | head=>exact k
   | tail _ hq=>exact zi5 h q hq
  ·rw [if_pos k] at h;exact absurd h k
theorem zdm{rs:List (List Pt)}{t:AF}(h:(jh rs t).2=0):(jh rs t).1=rs.map (List.map (goP t)):=by
 unfold jh at h ⊢
 by_cases k:qg rs
 ·rw [zV k] at h ⊢
  by_cases e:zb7 t rs=0
  ·rw [kF e];refine List.map_congr_left fun r hr=>List.map_congr_left fun p hp=>?_
   exact zqb (zi4 (zi5 e r hr) p hp)
  ·rw [if_pos e] at h;exact absurd h e
 ·rw [if_pos k] at h;exact absurd h dC
theorem zsP {l:List (List Pt)} {a d x y:Int} (ha:R64 a) (hd:R64 d) (hx:R64 x) (hy:R64 y) (h1:(jh l (it6 a 0 0 d 0 0)).2=0)
  (h2:(jh (jh l (it6 a 0 0 d 0 0)).1 (tr x y)).2=0) (h3:(jh l (v9 (it6 a 0 0 d 0 0) (tr x y)).1).2=0):
  (jh (jh l (it6 a 0 0 d 0 0)).1 (tr x y)).1=(jh l (v9 (it6 a 0 0 d 0 0) (tr x y)).1).1:=by
 rw [zdm h2,zdm h1,zdm h3,zml ha hd hx hy,List.map_map];refine List.map_congr_left fun r _=>?_
 show (r.map (goP _)).map (goP _)=_;rw [List.map_map];refine List.map_congr_left fun p _=>?_
 show goP (tr x y) (goP (it6 a 0 0 d 0 0) p)=_;rw [zrD,zoR,zoR];unfold sh;dsimp only;rw [Int.add_zero,Int.add_zero]
theorem zqc(x y:BR)(hx:x.len<=1000)(hy:y.len<=1000):zd Tryz.prog 26 [.agg (brE x),.agg (brE y)] [] (.agg (afE (afQ x.v ((0:Int):Rat) ((0:Int):Rat) y.v ((0:Int):Rat) ((0:Int):Rat)))) []:=by
 refine zc tok mix Tryz.func26 rfl rfl rfl ?_
 refine zb.to _ ((zbf 0 0 0 0 zBR zBR dC dC dC dC dC dC).args
  (.cons .refl (.cons .refl (.cons .refl (.cons .refl (.cons (jJ uU) (.cons (jJ uU) .nil))))))) rfl ?_
 rw [zsH];refine zb.t (qG x oM) ?_;refine zb.t (qG y oM) ?_;exact .refl
theorem zkm(x y:Int)(hx:R64 x)(hy:R64 y):zd Tryz.prog 24 [i64 x,i64 y] [] (.agg (afE (tr x y))) []:=by
 refine zc tok mix Tryz.func24 rfl rfl rfl ?_
 have k:∀n:Int,R64 n->(ofQ (n:Rat)).len<=1000:=fun n h=>by
  have h1:=uF n;have h2:=jq h;rw [zJ];omega
 refine zb.t (jc x hx) ?_;refine zb.t (jc y hy) ?_;refine zb.t (zt2 (ofQ (x:Rat)) (ofQ (y:Rat)) (k x hx) (k y hy)) ?_;rw [kE,kE];exact .refl
def zuA(t:AF)(n:Int):List SV:=afE t++[i64 n]
theorem zt6{σ:St}(k0:Nat){T:TypeId}{α:Type}{enc:α->List SV}{sz:Nat}{xs:List α}(h0:zO σ.M k0=some (.arr T enc sz xs)):Sub σ ⟨σ.L,qA σ.M k0 (.garr T sz (xs.map enc)),σ.nk,σ.nt,σ.n0⟩:=by
 refine zov k0 h0 fun S Pm ρ w ⟨v,cells,g1,g2,g3,g4,g5,g6⟩=>⟨v,cells,g1,by rw [List.length_map];exact g2,by rw [List.length_map];exact g3,g4,fun y hy=>?_,fun i j y s hy hs=>?_⟩
 ·obtain ⟨x,hx,rfl⟩:=List.mem_map.1 hy;exact g5 x hx
 ·rw [List.getElem?_map] at hy
  cases hx:xs[i]? with
  | none=>rw [hx] at hy;cases hy
  | some x=>
   rw [hx] at hy
   cases hy
   obtain ⟨u,h1,h2⟩:=g6 i j x s hx hs;exact ⟨u,h1,.d _ _ h2⟩
theorem zvN{p b:Pt}(hp:zo p)(hb:zo b):addP p b=sh b.x b.y p:=by rw [zrr hp hb];rfl
theorem znw(rs:List (List Pt))(b:Pt)(h:qg rs)(hb:zo b)(hl:rs.length<=100000):zd Tryz.prog 25 [.sl zw rs,.agg (ptE b)] [] (.own 0) [(0,.arr 76 zw 1 (rs.map (List.map (sh b.x b.y))))]:=by
 refine zhF tok mix Tryz.func25 rfl rfl rfl ?_;have hc:kN rs<=4096:=by have:=h.1;omega
 refine ⟨List Pt,zw,[],rfl,Ob.o2 ?_⟩;refine ⟨Nat,fun i=>⟨[(0,.sl zw rs),(3,.loc 0 0),(5,.own 1),(6,i64 (i:Int))],[(0,.box 52 (ptE b)),(1,.garr 76 1 (ye ((rs.take i).map (List.map (sh b.x b.y)))))],2,47,0⟩,fun i=>i<=rs.length,fun i=>rs.length - i,0,Nat.zero_le _,?_,?_⟩
 ·exact (zt6 1 rfl).trans (zM [(0,some 0),(1,some 1)] ⟨rfl,⟨_,rfl,uL rfl⟩,trivial⟩)
 rintro i h1
 intro hl1;refine Br.mk (fun g=>?_) (fun g=>?_);rotate_left
 ·have g:¬(i:Int) < rs.length:=g;have et:rs.take i=rs:=List.take_of_length_le oM;refine ⟨_,zgk 1 zw ((rs.take i).map (List.map (sh b.x b.y))) rfl (fun _ _=>rfl),some 1,.own 1 rfl,congrArg (fun q=>some (Mem.arr 76 zw 1 q)) (by rw [et]),fun _ _=>rfl⟩
 have g:(i:Int) < rs.length:=g;refine zb.t (zle rs) ?_;refine Br.mk (fun _=>?_) (fun k=>absurd h k);obtain ⟨x,hx⟩:∃x,rs[i]? =some x:=⟨_,List.getElem?_eq_getElem oM⟩;have hm:=List.mem_of_getElem? hx;have hxl:=Nat.le_trans (uK hm) hc;have same:∀{y:List Pt},rs[((i:Nat):Int).toNat]? =some y->y=x:=fun h=>Option.some.inj ((show rs[i]? =some _ from h).symm.trans hx)
 refine ⟨Pt,ptE,[],rfl,Ob.o2 ?_⟩;refine ⟨Nat,fun j=>⟨[(0,.sl zw rs),(3,.loc 0 0),(5,.own 1),(6,i64 (i:Int)),(7,.own 2),(8,i64 (j:Int))],[(0,.box 52 (ptE b)),(1,.garr 76 1 (ye ((rs.take i).map (List.map (sh b.x b.y))))),(2,.arr 52 ptE 2 ((x.take j).map (sh b.x b.y)))],3,47,0⟩,fun j=>j<=x.length,fun j=>x.length - j,0,Nat.zero_le _,?_,?_⟩
 ·exact zM [(0,some 0),(1,some 1),(2,some 2)] ⟨rfl,⟨_,rfl,uL rfl⟩,rfl,trivial⟩
 rintro j j1
 have ml:((x.take j).map (sh b.x b.y)).length<=4096:=by rw [List.length_map,List.length_take];omega
 refine Ob.o ?_;intro y hy;rw [same hy];intro hl2;refine Br.mk (fun q=>?_) (fun q=>?_)
 ·have q:(j:Int) < x.length:=q;obtain ⟨z,hz⟩:∃z,x[j]? =some z:=⟨_,List.getElem?_eq_getElem oM⟩;refine Dr.d ?_;refine Ob.o ?_;intro y' hy';rw [same hy'];refine Ob.o ?_;intro z' hz';have ez:z'=z:=Option.some.inj ((show x[j]? =some z' from hz').symm.trans hz);rw [ez];refine zb.t (zwJ z b) ?_;rw [zvN (h.2 x hm z (List.mem_of_getElem? hz)) hb];refine ⟨Pt,ptE,[sh b.x b.y z],rfl,Ob.o0 ?_⟩;refine ⟨[sh b.x b.y z],rfl,Ob.o3 ?_⟩;refine Ob.mk (by kernel_rfl) ?_;refine Ar.o ?_
  exact ⟨j+1,oM,zM [(0,some 0),(1,some 1),(2,some 4)] ⟨rfl,⟨_,rfl,uL rfl⟩,congrArg (fun q=>some (Mem.arr 52 ptE 2 q)) (by rw [List.take_add_one,hz,List.map_append];rfl),trivial⟩,by dsimp only;omega⟩
 have q:¬(j:Int) < x.length:=q;have etx:x.take j=x:=List.take_of_length_le oM;refine ⟨[[.own 2]],rfl,Ob.o7 ?_⟩;refine Ob.mk ⟨by show _*(24:Int)<=_;rw [yS,List.length_map,List.length_take];simp only [List.length_cons,List.length_nil];omega,by rw [yS,List.length_map,List.length_take];simp only [List.length_cons,List.length_nil];omega,dC⟩ ?_;refine Ar.o ?_
 refine ⟨i+1,oM,(zdI (sz0:=1) (T0:=76) 2 4 (enc:=ptE) (ys:=(x.take j).map (sh b.x b.y)) rfl rfl (xs':=ye ((rs.take i).map (List.map (sh b.x b.y))++[(x.take j).map (sh b.x b.y)])) (by rw [yS,List.length_append,List.length_append,yS];rfl) (fun z hz=>?_) zhr).trans (zM [(0,some 0),(1,some 4)] ⟨rfl,⟨_,rfl,uL ?_⟩,trivial⟩),by dsimp only;omega⟩
 ·unfold ye at hz;obtain ⟨b,_,rfl⟩:=List.mem_map.1 hz;rfl
 ·rw [etx];rw [List.take_add_one (l:=rs) (i:=i),hx,List.map_append];rfl
theorem zcH(rs:List (List Pt))(b:Pt)(h:qg rs)(hb:zo b)(hl:rs.length<=100000):zd Tryz.prog 25 [.sl zw rs,.agg (ptE b)] [] (.sl zw (rs.map (List.map (sh b.x b.y)))) []:=(znw rs b h hb hl).plain rfl
theorem l_lawFill(l:List Sg)(t:AF)(tol:Int):zd Tryz.prog 3 [.sl sgE l,.agg (zuA t tol)] [] (bl true) []:=by
 refine zc tok mix Tryz.func3 rfl rfl rfl ?_;refine zb.t (zki l t) ?_;refine Br.mk (fun k=>?_) (fun k=>?_)
 ·refine zb.t zf ?_;exact .refl
 have k:zhw l t:=Decidable.not_not.1 k;have ht:=k.2.2.up (m:=100000) dC;refine zb.t (u6 l t tol ht (by have:=k.2.1;omega)) ?_;refine zb.t (ztZ l t tol ht) ?_;refine zb.t (zc9 _ _) ?_;refine Br.mk (fun _=>?_) (fun h=>absurd rfl h);refine Br.mk (fun _=>?_) (fun h=>absurd rfl h);refine zb.t zf ?_;exact .refl
theorem l_lawStroke(l:List Sg)(pen:Pen)(t:AF)(tol:Int):zd Tryz.prog 4 [.sl sgE l,.agg (yi pen),.agg (zuA t tol)] [] (bl true) []:=by
 refine zc tok mix Tryz.func4 rfl rfl rfl ?_;refine zb.t (zki l t) ?_;refine Br.mk (fun k=>?_) (fun k=>?_)
 ·refine zb.t zf ?_;exact .refl
 have k:zhw l t:=Decidable.not_not.1 k;have ht:=k.2.2.up (m:=100000) dC;intro hl;refine Br.mk (fun c=>?_) (fun c=>?_)
 ·refine zb.t zf ?_;exact .refl
 refine zb.t (zcG l pen t tol ht) ?_;refine zb.t (zw7 l pen t tol ht) ?_;refine zb.t (zc9 _ _) ?_;refine Br.mk (fun _=>?_) (fun h=>absurd rfl h);refine Br.mk (fun _=>?_) (fun h=>absurd rfl h);refine zb.t zf ?_;exact .refl
theorem l_lawOffset(rs:List (List Pt))(n:Int):zd Tryz.prog 10 [.sl zw rs,i64 n] [] (bl true) []:=by
 refine zc tok mix Tryz.func10 rfl rfl rfl ?_;refine zb.t (zxm rs 60 dC) ?_;refine Br.mk (fun k=>?_) (fun k=>?_)
 ·refine zb.t zf ?_;exact .refl
 have k:zw6 rs 60:=Decidable.not_not.1 k;have hl:rs.length<=4096:=by have:=k.1;omega
 refine zb.t (zxC rs n hl fun r hr=>by have:=uK hr;have:=k.2;omega) ?_;refine zb.t (r_ofs rs n hl) ?_;refine zb.t (zc9 _ _) ?_;refine Br.mk (fun _=>?_) (fun h=>absurd rfl h);refine Br.mk (fun _=>?_) (fun h=>absurd rfl h);refine zb.t zf ?_;exact .refl
theorem l_lawBounds(l:List Sg)(pen:Pen):zd Tryz.prog 8 [.sl sgE l,.agg (yi pen)] [] (bl true) []:=by
 refine zc tok mix Tryz.func8 rfl rfl rfl ?_;refine zb.t kI ?_;refine zb.t (zki l idA) ?_;refine Br.mk (fun k=>?_) (fun k=>?_)
 ·refine zb.t zf ?_;exact .refl
 have k:zhw l idA:=Decidable.not_not.1 k;intro hl;refine Br.mk (fun c=>?_) (fun c=>?_)
 ·refine zb.t zf ?_;exact .refl
 refine zb.t (zeM l pen) ?_;refine zb.t (zp6 l pen (by have:=k.2.1;omega)) ?_;refine Br.mk (fun _=>?_) (fun h=>absurd (qx.2 rfl) h);refine Br.mk (fun _=>?_) (fun h=>absurd (qx.2 rfl) h);refine Br.mk (fun _=>?_) (fun h=>absurd Iff.rfl h);refine zb.t zf ?_;exact .refl
theorem zxy(rs:List (List Pt))(t:AF)(hk:¬qg rs)(hs:∀r∈rs,(r.length:Int)<=9223372036854771711):zd Tryz.prog 21 [.sl zw rs,.agg (afE t)] [] (rgE (jh rs t)) []:=by
 refine zc tok mix Tryz.func21 rfl rfl rfl ?_;refine zb.t (zgF rs hs) ?_;refine Br.mk (fun _=>?_) (fun h=>absurd hk h);exact qT (zaJ hk)
theorem zxz(rs:List (List Pt))(t:AF)(hk:¬qg rs):zd Tryz.prog 22 [.sl zw rs,.agg (afE t)] [] (rgE (jh rs t)) []:=by
 refine zc tok mix Tryz.func22 rfl rfl rfl ?_;refine zb.t (zle rs) ?_;refine Br.mk (fun _=>?_) (fun h=>absurd hk h);exact qT (zaJ hk)
theorem l_lawTransform(rs:List (List Pt))(t:AF)(hs:∀r∈rs,(r.length:Int)<=9223372036854771711):zd Tryz.prog 5 [.sl zw rs,.agg (afE t)] [] (bl true) []:=by
 refine zc tok mix Tryz.func5 rfl rfl rfl ?_;refine zb.t (zoK t) ?_;refine Br.mk (fun k=>?_) (fun k=>?_)
 ·refine zb.t zf ?_;exact .refl
 have k:t.le 12:=Decidable.not_not.1 k;have ht:=k.up (m:=100000) dC
 have fin:∀(_:zw6 rs 200∨¬qg rs),zd Tryz.prog 21 [.sl zw rs,.agg (afE t)] [] (rgE (jh rs t)) []/\zd Tryz.prog 22 [.sl zw rs,.agg (afE t)] [] (rgE (jh rs t)) []:=fun h=>by
  rcases h with h | h
  ·have hl:rs.length<=100000:=by have:=h.1;omega
   exact ⟨zhu rs t ht hl hs,zxn rs t ht hl⟩
  ·exact ⟨zxy rs t h hs,zxz rs t h⟩
 refine zb.t (zxm rs 200 dC) ?_;refine Br.mk (fun c=>?_) (fun c=>?_)
 ·refine zb.t (zle rs) ?_;refine Br.mk (fun v=>?_) (fun v=>?_)
  ·refine zb.t zf ?_;exact .refl
  obtain ⟨hp,hr⟩:=fin (.inr v);refine zb.t hp ?_;refine zb.t hr ?_;refine zb.t (zc9 _ _) ?_;refine Br.mk (fun _=>?_) (fun h=>absurd rfl h);refine Br.mk (fun _=>?_) (fun h=>absurd rfl h);refine zb.t zf ?_;exact .refl
 ·obtain ⟨hp,hr⟩:=fin (.inl (Decidable.not_not.1 c));refine zb.t hp ?_;refine zb.t hr ?_;refine zb.t (zc9 _ _) ?_;refine Br.mk (fun _=>?_) (fun h=>absurd rfl h);refine Br.mk (fun _=>?_) (fun h=>absurd rfl h);refine zb.t zf ?_;exact .refl
end Go.Gs
namespace Go.Gs
open Go.Proofs Go.RowKit
theorem laidOut:laidOutB Tryz.prog=true:=by kernel_rfl
theorem wfi{n:Int}(h:(Lit.int .i64 n).wf=true):R64 n:=r64 h
theorem wf32{n:Int}(h:(Lit.int .u32 n).wf=true):0<=n/\n<=4294967295:=by
 simp only [Lit.wf,Bool.and_eq_true,decide_eq_true_eq] at h;exact h
def shI:Sh:=.int .i64
def zi6:Sh:=.st (.cons .bool (.cons (.sl (.int .u32)) .nil))
def zcT:Sh:=.st (.cons zi6 (.cons zi6 .nil))
def zsQ:Sh:=.st (.cons zcT (.cons zcT (.cons zcT (.cons zcT (.cons zcT (.cons zcT .nil))))))
def zmm(n:Int):Dig:=dof n.toNat
def toBI(y:zi6.T):BI:=⟨y.1,List.map zmm y.2.1⟩
def znx(y:zcT.T):BR:=⟨toBI y.1,toBI y.2.1⟩
def toAF(y:zsQ.T):AF:=⟨znx y.1,znx y.2.1,znx y.2.2.1,znx y.2.2.2.1,znx y.2.2.2.2.1,znx y.2.2.2.2.2.1⟩
theorem zuC(y:zi6.T)(h:zi6.wf y):jV (zi6.enc y) (biE (toBI y)):=by
 refine .cons .refl (.cons ?_ .nil);refine LEd.sl zmm fun n hn=>?_
 have h1:=wf32 (h.2.1 n hn)
 have e:((zmm n).val:Int)=n:=by
  unfold zmm;rw [zvV];omega
 show jV [.val (.int .u32 n)] [.val (.int .u32 ((zmm n).val:Int))];rw [e];exact .refl
theorem zi7(y:zcT.T)(h:zcT.wf y):jV (zcT.enc y) (brE (znx y)):=jV.append (zuC y.1 h.1) (jV.append (zuC y.2.1 h.2.1) .nil)
theorem zxF(y:zsQ.T)(h:zsQ.wf y):jV (zsQ.enc y) (afE (toAF y)):=
 jV.append (zi7 _ h.1) (jV.append (zi7 _ h.2.1) (jV.append (zi7 _ h.2.2.1) (jV.append (zi7 _ h.2.2.2.1) (jV.append (zi7 _ h.2.2.2.2.1) (by
  have:=jV.append (zi7 _ h.2.2.2.2.2.1) .nil
  rwa [List.append_nil,List.append_nil] at this)))))
section
variable {H:Type} {enc:TypeId×Value->H} {W:World} {b0:Nat} {held:Bool}
theorem open_affine{v:Value}{d:DataW H}{p:List MemPlace}(hv:Value.okWide Tryz.prog W .any b0 29 v)(h:DataW.Trod enc Tryz.prog W 0 (fun _=>true) held 29 v d p):
  ∃t:AF,∀(S Pm:Nat->Prop) (ρ:zj),(∀b,¬S b)->G S Pm ρ W (.agg (afE t)) v:=by
 obtain ⟨y,hy,g⟩:=zcF zsQ (by kernel_rfl) (by kernel_rfl) hv h;exact ⟨toAF y,g _ (zxF y hy)⟩
end
end Go.Gs
