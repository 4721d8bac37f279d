/- Fills that are moved: plain. -/
import Derived.Test.YtcjnhffjmonbeaaGreatDoorMA
import Derived.Test.YtcjnhffjmonbeaaGreatDoorMBB
import Derived.Test.YtcjnhffjmonbeaaGreatDoorMAZ
import Derived.Test.YtcjnhffjmonbeaaGreatDoorMBA
import Derived.Test.YtcjnhffjmonbeaaGreatDoorMAP
import Derived.RangeFuncRecord
import Derived.OrdersIn
import Derived.TacticsIn
set_option maxRecDepth 100000
set_option maxHeartbeats 8000000
set_option linter.all false
namespace Go.Gs
theorem zju{lo hi:Pt}{l:List Sg}{tol:Int}(h0:(kZ l tol).2=0)(hb:∀p∈jc l,inB lo hi p):
  kY l/\zcK tol/\uK (kZ l tol).1<=4096/\∀q∈(kZ l tol).1,q.pts≠[]/\yh q.pts/\∀z∈q.pts,inB lo hi z:=by
 unfold kZ at h0 ⊢
 by_cases h1:¬kY l
 ·rw [if_pos h1] at h0;exact absurd h0 dC
 rw [if_neg h1] at h0 ⊢
 by_cases h2:¬zcK tol
 ·rw [if_pos h2] at h0;exact absurd h0 dC
 rw [if_neg h2] at h0 ⊢
 by_cases h3:(zty l tol).2≠0
 ·rw [if_pos h3] at h0;exact absurd h0 h3
 rw [if_neg h3] at h0 ⊢
 by_cases h4:4096 < uK (zty l tol).1
 ·rw [if_pos h4] at h0;exact absurd h0 dC
 rw [if_neg h4];have:=zfr (tol:=tol) (zbt.1 (Decidable.not_not.1 h1)).2 hb l.length (Nat.le_refl _);rw [List.take_length] at this;exact ⟨Decidable.not_not.1 h1,Decidable.not_not.1 h2,by dsimp only;omega,(this (Decidable.not_not.1 h3)).2⟩
def vV(l:List Pl):List (List Pt):=(l.filter fun p=>decide (3<=p.pts.length)).map Pl.pts
def zbK(l:List Sg)(t:AF)(tol:Int):List (List Pt)×Int:=
 if (trans t l).2≠0 then ([],(trans t l).2) else if (kZ (trans t l).1 tol).2≠0 then ([],(kZ (trans t l).1 tol).2) else (vV (kZ (trans t l).1 tol).1,0)
section
variable {lo hi:Pt} {w m:Int}
end
open Go.Proofs
theorem zkR{l:List Pl}{i:Nat}{x:Pl}(h:l[i]? =some x):vV (l.take (i+1))=vV (l.take i)++if 3<=x.pts.length then [x.pts] else []:=by
 unfold vV;rw [List.take_add_one,h]
 by_cases c:3<=x.pts.length
 ·simp [c]
 ·simp [c]
theorem zpd(l:List Pl):(vV l).length<=l.length:=by
 unfold vV;rw [List.length_map];exact List.length_filter_le _ _
theorem zpe(l:List Pl)(hl:l.length<=4096)(hp:∀q∈l,q.pts.length<=4096):ze Tryz.prog 126 [.sl plE l] [] (.sl qu (vV l)) []:=by
 refine zd tok mix Tryz.func126 rfl rfl rfl ?_;intro hl1;refine ⟨Nat,fun i=>⟨[(3,.own 0),(6,.sl plE l),(7,i64 (l.length:Int)),(8,i64 (i:Int))],[(0,.arr 75 qu 1 (vV (l.take i)))],1,24,0⟩,fun i=>i<=l.length,fun i=>l.length - i,0,?_,?_,?_⟩
 ·exact Nat.zero_le _
 ·exact zi [(0,none)]
 rintro i hi
 have hlen:=zpd (l.take i);rw [List.length_take] at hlen;refine Br.mk (fun g=>?_) (fun g=>?_)
 ·have g:(i:Int) < l.length:=g;refine Ob.o ?_;intro x hx;have hx:l[i]? =some x:=hx;intro hl3;have e:=zkR hx;refine Br.mk (fun c=>?_) (fun c=>?_)
  ·have c:(3:Int)<=x.pts.length:=c;refine zb.t ((zqV x.pts (hp x (List.mem_of_getElem? hx))).plain rfl) ?_;refine ⟨List Pt,qu,[x.pts],rfl,Ob.o0 ?_⟩;refine ⟨[x.pts],rfl,Ob.o17 ?_⟩;refine Ar.o ?_;refine ⟨i+1,oM,k9 [(0,some 3)] ⟨congrArg (fun q=>some (Mem.arr 75 qu 1 q)) ?_,trivial⟩,by dsimp only;omega⟩;rw [e,if_pos oM]
  ·have c:¬(3:Int)<=x.pts.length:=c;refine Ar.o ?_;refine ⟨i+1,oM,k9 [(0,some 0)] ⟨congrArg (fun q=>some (Mem.arr 75 qu 1 q)) ?_,trivial⟩,by dsimp only;omega⟩;rw [e,if_neg oM,List.append_nil]
 ·have g:¬(i:Int) < l.length:=g;exact yb (by rw [List.take_of_length_le oM])
theorem zuj(l:List Pl)(hl:l.length<=4096)(hp:∀q∈l,q.pts.length<=4096):ze Tryz.prog 79 [.sl plE l] [] (.sl qu (vV l)) []:=by
 refine zd tok mix Tryz.func79 rfl rfl rfl ?_;refine ⟨List Pt,qu,[],rfl,Ob.o2 ?_⟩;refine ⟨Nat,fun i=>⟨[(3,.own 0),(0,.sl plE l),(4,i64 (i:Int))],[(0,.arr 75 qu 1 (vV (l.take i)))],1,29,0⟩,fun i=>i<=l.length,fun i=>l.length - i,0,?_,?_,?_⟩
 ·exact Nat.zero_le _
 ·exact zi [(0,some 0)]
 rintro i hi
 have hlen:=zpd (l.take i);rw [List.length_take] at hlen;intro hl1;refine Br.mk (fun g=>?_) (fun g=>?_)
 ·have g:(i:Int) < l.length:=g;refine Ob.o ?_;intro x hx;have hx:l[i]? =some x:=hx;intro hl3;have e:=zkR hx;refine Br.mk (fun c=>?_) (fun c=>?_)
  ·have c:(3:Int)<=x.pts.length:=c;refine Ob.o ?_;intro y hy;have ey:y=x:=Option.some.inj ((show l[i]? =some y from hy).symm.trans hx);rw [ey];refine zb.t (zuf x.pts (hp x (List.mem_of_getElem? hx))) ?_;refine ⟨List Pt,qu,[x.pts],rfl,Ob.o0 ?_⟩;refine ⟨[x.pts],rfl,Ob.o17 ?_⟩;refine Ar.o ?_;refine ⟨i+1,oM,k9 [(0,some 2)] ⟨congrArg (fun q=>some (Mem.arr 75 qu 1 q)) ?_,trivial⟩,by dsimp only;omega⟩;rw [e,if_pos oM]
  ·have c:¬(3:Int)<=x.pts.length:=c;refine Ar.o ?_;refine ⟨i+1,oM,k9 [(0,some 0)] ⟨congrArg (fun q=>some (Mem.arr 75 qu 1 q)) ?_,trivial⟩,by dsimp only;omega⟩;rw [e,if_neg oM,List.append_nil]
 ·have g:¬(i:Int) < l.length:=g;exact yb (by rw [List.take_of_length_le oM])
theorem zbv{a b c:Int}(ha: -1048576<=a/\a<=1048576)(hb: -1048576<=b/\b<=1048576)(hc: -1048576<=c/\c<=1048576):
  (-4194304<=a - 2*b+c/\a - 2*b+c<=4194304)/\0<=(a - 2*b+c)*(a - 2*b+c)/\(a - 2*b+c)*(a - 2*b+c)<=17592186044416:=by
 have h: -4194304<=a - 2*b+c/\a - 2*b+c<=4194304:=oM;have h1:=yn (A:=4194304) (B:=4194304) h h;have h2:=zmP (a - 2*b+c);omega
theorem zbZ{a b c:Pt}(ha:zP a)(hb:zP b)(hc:zP c):0<=uW a b c/\uW a b c<=35184372088832:=by
 have h1:=zbv ha.1 hb.1 hc.1;have h2:=zbv ha.2 hb.2 hc.2;unfold uW;omega
theorem zfs(a b c:Pt)(ha:zP a)(hb:zP b)(hc:zP c):ze Tryz.prog 319 [.agg (ptE a),.agg (ptE b),.agg (ptE c)] [] (i64 (uW a b c)) []:=by
 have h1:=zbv ha.1 hb.1 hc.1;have h2:=zbv ha.2 hb.2 hc.2;unfold zP at ha hb hc;refine zd tok mix Tryz.func319 rfl rfl rfl ?_;refine Dr.k ?_;(iterate 9 refine Ar.o ?_);exact .refl
theorem ztZ(a b c:Pt)(ha:zP a)(hb:zP b)(hc:zP c):ze Tryz.prog 351 [.agg (ptE a),.agg (ptE b),.agg (ptE c)] [] (i64 (uW a b c)) []:=by
 have h1:=zbv ha.1 hb.1 hc.1;have h2:=zbv ha.2 hb.2 hc.2;unfold zP at ha hb hc;refine zd tok mix Tryz.func351 rfl rfl rfl ?_;(iterate 9 refine Ar.o ?_);exact .refl
theorem zkS{need tol:Int}{i:Nat}(h:i<=64):yA need tol (65 - i) i=if enough need tol i then ((i:Int),0) else yA need tol (65 - (i+1)) (i+1):=by
 rw [show 65 - i=(64 - i)+1 by omega,yA,show 65 - (i+1)=64 - i by omega]
theorem zkT{i:Nat}{tol:Int}(hi:i<=64)(ht:1<=tol/\tol<=256):
  (-65536<=16*(i:Int)*i/\16*(i:Int)*i<=65536)/\(-4194304<=16*(i:Int)*i*i/\16*(i:Int)*i*i<=4194304)/\
  (-268435456<=16*(i:Int)*i*i*i/\16*(i:Int)*i*i*i<=268435456)/\(-68719476736<=16*(i:Int)*i*i*i*tol/\16*(i:Int)*i*i*i*tol<=68719476736)/\
  (-17592186044416<=16*(i:Int)*i*i*i*tol*tol/\16*(i:Int)*i*i*i*tol*tol<=17592186044416):=by
 have h2:=yn (A:=1024) (B:=64) (a:=16*(i:Int)) (b:=i) oM oM;have h3:=yn (A:=65536) (B:=64) (a:=16*(i:Int)*i) (b:=i) oM oM;have h4:=yn (A:=4194304) (B:=64) (a:=16*(i:Int)*i*i) (b:=i) oM oM;have h5:=yn (A:=268435456) (B:=256) (a:=16*(i:Int)*i*i*i) (b:=tol) oM oM;have h6:=yn (A:=68719476736) (B:=256) (a:=16*(i:Int)*i*i*i*tol) (b:=tol) oM oM;omega
def zlT(c:Int×Int):SV:=.tup [i64 c.1,i64 c.2]
theorem zcM{c:Int×Int}{a b:Int}(h:c=(a,b)):LE (.tup [i64 a,i64 b]) (zlT c):=by subst h;exact .refl
theorem zjv(need tol:Int)(l:List Pt)(hl:l.length<=4):ze Tryz.prog 318 [i64 need,i64 tol,.sl ptE l] [] (zlT (qw need tol l)) []:=by
 refine zd tok mix Tryz.func318 rfl rfl rfl ?_;have bad:¬(1<=tol/\tol<=256)->qw need tol l=(0,2):=fun h=>by unfold qw;rw [if_pos h]
 refine Br.mk (fun a1=>zcM (bad (fun h=>by have a1:tol < 1:=a1;omega))) (fun a1=>?_);refine Br.mk (fun a2=>zcM (bad (fun h=>by have a2:256 < tol:=a2;omega))) (fun a2=>?_);have ht:1<=tol/\tol<=256:=⟨by have a1:¬tol < 1:=a1;omega,by have a2:¬256 < tol:=a2;omega⟩;intro hl2;refine ⟨Nat,fun i=>⟨[(0,i64 need),(1,i64 tol),(17,.sl ptE l),(18,i64 (l.length:Int)),(19,i64 (i:Int))],[],0,46,0⟩,fun i=>i<=l.length/\∀p∈l.take i,zP p,fun i=>l.length - i,0,?_,?_,?_⟩
 ·exact ⟨Nat.zero_le _,fun p hp=>by cases hp⟩
 ·exact zi []
 rintro i ⟨h1,h2⟩
 refine Br.mk (fun g=>?_) (fun g=>?_)
 ·have g:(i:Int) < l.length:=g;refine Ob.o ?_;intro x hx;have hx:l[i]? =some x:=hx;refine zb.t (jG x) ?_;refine Br.mk (fun b=>?_) (fun b=>?_)
  ·refine zcM ?_;unfold qw;rw [zaR ht,if_pos (fun k=>b (k x (List.mem_of_getElem? hx)))]
  ·have b:=Decidable.not_not.1 b;refine Ar.o ?_;refine ⟨i+1,⟨oM,fun p hp=>?_⟩,zi [],by dsimp only;omega⟩;rw [List.take_add_one,hx] at hp
   rcases List.mem_append.1 hp with hp | hp
   ·exact h2 p hp
   ·simp at hp;rw [hp];exact b
 have g:¬(i:Int) < l.length:=g;have hv:∀p∈l,zP p:=by rw [List.take_of_length_le oM] at h2;exact h2
 have e:qw need tol l=yA need tol 64 1:=by unfold qw;rw [zaR ht,zaR hv]
 refine ⟨Nat,fun i=>⟨[(0,i64 need),(1,i64 tol),(10,i64 (i:Int))],[],0,46,0⟩,fun i=>1<=i/\i<=65/\yA need tol (65 - i) i=yA need tol 64 1,fun i=>65 - i,1,?_,?_,?_⟩
 ·exact ⟨dC,dC,rfl⟩
 ·exact zi []
 rintro i ⟨h3,h4,h5⟩
 refine Br.mk (fun g=>?_) (fun g=>?_)
 ·have g:(i:Int)<=64:=g;have ch:=zkT (i:=i) oM ht;have st:=zkS (need:=need) (tol:=tol) (i:=i) oM;rw [h5] at st;(iterate 6 refine Ar.o ?_);refine Br.mk (fun k=>?_) (fun k=>?_)
  ·have k:enough need tol i:=k;exact zcM (by rw [e,st,if_pos k])
  ·have k:¬enough need tol i:=k;refine Ar.o ?_;refine ⟨i+1,⟨oM,oM,by rw [st,if_neg k]⟩,zi [],by dsimp only;omega⟩
 ·have g:¬(i:Int)<=64:=g;have h6:i=65:=oM;subst h6;exact zcM (by rw [e,← h5];rfl)
theorem zuk(tol:Int):ze Tryz.prog 130 [i64 tol] [] (pr (zcK tol)) []:=by
 refine zd tok mix Tryz.func130 rfl rfl rfl ?_;refine Br.mk (fun h=>?_) (fun h=>zc (fun k=>h k.1));exact zu ⟨fun k=>⟨h,k⟩,fun k=>k.2⟩
theorem ztS(l:List Pt):ze Tryz.prog 327 [.sl ptE l] [] (pr (∀p∈l,zP p)) []:=by
 refine zd tok mix Tryz.func327 rfl rfl rfl ?_;refine ⟨Nat,fun i=>⟨[(0,.sl ptE l),(3,i64 (i:Int))],[],0,16,0⟩,fun i=>i<=l.length/\∀p∈l.take i,zP p,fun i=>l.length - i,0,?_,?_,?_⟩
 ·exact ⟨Nat.zero_le _,fun p hp=>by cases hp⟩
 ·exact zi []
 rintro i ⟨h1,h2⟩
 intro hl1;refine Br.mk (fun g=>?_) (fun g=>?_)
 ·have g:(i:Int) < l.length:=g;refine Ob.o ?_;intro x hx;have hx:l[i]? =some x:=hx;refine zb.t (yy x) ?_;refine Br.mk (fun b=>zc fun k=>b (k x (List.mem_of_getElem? hx))) (fun b=>?_);have b:=Decidable.not_not.1 b;refine Ar.o ?_;refine ⟨i+1,⟨oM,fun p hp=>?_⟩,zi [],by dsimp only;omega⟩;rw [List.take_add_one,hx] at hp
  rcases List.mem_append.1 hp with hp | hp
  ·exact h2 p hp
  ·simp at hp;rw [hp];exact b
 ·have g:¬(i:Int) < l.length:=g;rw [List.take_of_length_le oM] at h2;exact zH h2
theorem zut(a b c:Pt)(tol:Int):ze Tryz.prog 325 [.sl ptE [a,b,c],i64 tol,i64 1] [] (zlT (qw (1*(uW a b c)) tol [a,b,c])) []:=by
 refine zd tok mix Tryz.func325 rfl rfl rfl ?_;refine zb.t (zuk tol) ?_;refine Br.mk (fun a1=>zcM (by unfold qw;rw [if_pos (show ¬(1<=tol/\tol<=256) from a1)])) (fun a1=>?_);have ht:1<=tol/\tol<=256:=Decidable.not_not.1 a1;refine zb.t (ztS [a,b,c]) ?_;refine Br.mk (fun a2=>zcM (by unfold qw;rw [zaR ht,if_pos a2])) (fun a2=>?_);have hv:∀p∈[a,b,c],zP p:=Decidable.not_not.1 a2;have e:qw (1*(uW a b c)) tol [a,b,c]=yA (1*(uW a b c)) tol 64 1:=by unfold qw;rw [zaR ht,zaR hv]
 have ha:=hv a (by simp);have hb:=hv b (by simp);have hc:=hv c (by simp);have r1:=zbZ ha hb hc;refine Dr.k ?_;refine Ob.mk (by show (0:Int)<=0/\(0:Int) < (3:Nat);decide) ?_;intro x hx
 cases (show some a=some x from hx)
 refine Ob.mk (by show (0:Int)<=1/\(1:Int) < (3:Nat);decide) ?_;intro x hx
 cases (show some b=some x from hx)
 refine Ob.mk (by show (0:Int)<=2/\(2:Int) < (3:Nat);decide) ?_;intro x hx
 cases (show some c=some x from hx)
 refine zb.t (ztZ a b c ha hb hc) ?_;intro hl;refine Br.mk (fun k=>absurd k (by show ¬(3:Int) < (3:Nat);decide)) (fun _=>?_);generalize hD:uW a b c=D at*;have rD:0<=D/\D<=35184372088832:=oM;refine ⟨Nat,fun i=>⟨[(1,i64 tol),(2,i64 1),(8,i64 D),(9,i64 (i:Int))],[],0,62,0⟩,fun i=>1<=i/\i<=65/\yA (1*D) tol (65 - i) i=yA (1*D) tol 64 1,fun i=>65 - i,1,?_,?_,?_⟩
 ·exact ⟨dC,dC,rfl⟩
 ·exact zi []
 rintro i ⟨h3,h4,h5⟩
 refine Br.mk (fun g=>?_) (fun g=>?_)
 ·have g:(i:Int)<=64:=g;have ch:=zkT (i:=i) oM ht;have st:=zkS (need:=1*D) (tol:=tol) (i:=i) oM;rw [h5] at st;(iterate 7 refine Ar.o ?_);refine Br.mk (fun k=>?_) (fun k=>?_)
  ·have k:enough (1*D) tol i:=k;exact zcM (by rw [e,st,if_pos k])
  ·have k:¬enough (1*D) tol i:=k;refine Ar.o ?_;refine ⟨i+1,⟨oM,oM,by rw [st,if_neg k]⟩,zi [],by dsimp only;omega⟩
 ·have g:¬(i:Int)<=64:=g;have h6:i=65:=oM;subst h6;exact zcM (by rw [e,← h5];rfl)
theorem zuu(a b c d:Pt)(tol:Int):ze Tryz.prog 325 [.sl ptE [a,b,c,d],i64 tol,i64 9] [] (zlT (qw (9*(max (uW a b c) (uW b c d))) tol [a,b,c,d])) []:=by
 refine zd tok mix Tryz.func325 rfl rfl rfl ?_;refine zb.t (zuk tol) ?_;refine Br.mk (fun a1=>zcM (by unfold qw;rw [if_pos (show ¬(1<=tol/\tol<=256) from a1)])) (fun a1=>?_);have ht:1<=tol/\tol<=256:=Decidable.not_not.1 a1;refine zb.t (ztS [a,b,c,d]) ?_;refine Br.mk (fun a2=>zcM (by unfold qw;rw [zaR ht,if_pos a2])) (fun a2=>?_);have hv:∀p∈[a,b,c,d],zP p:=Decidable.not_not.1 a2;have e:qw (9*(max (uW a b c) (uW b c d))) tol [a,b,c,d]=yA (9*(max (uW a b c) (uW b c d))) tol 64 1:=by unfold qw;rw [zaR ht,zaR hv]
 have ha:=hv a (by simp);have hb:=hv b (by simp);have hc:=hv c (by simp);have hd:=hv d (by simp);have r1:=zbZ ha hb hc;have r2:=zbZ hb hc hd;refine Dr.k ?_;refine Ob.mk (by show (0:Int)<=0/\(0:Int) < (4:Nat);decide) ?_;intro x hx
 cases (show some a=some x from hx)
 refine Ob.mk (by show (0:Int)<=1/\(1:Int) < (4:Nat);decide) ?_;intro x hx
 cases (show some b=some x from hx)
 refine Ob.mk (by show (0:Int)<=2/\(2:Int) < (4:Nat);decide) ?_;intro x hx
 cases (show some c=some x from hx)
 refine zb.t (ztZ a b c ha hb hc) ?_;intro hl;refine Br.mk (fun _=>?_) (fun k=>absurd (show (3:Int) < (4:Nat) by decide) k);refine Dr.k ?_;refine Ob.mk (by show (0:Int)<=1/\(1:Int) < (4:Nat);decide) ?_;intro x hx
 cases (show some b=some x from hx)
 refine Ob.mk (by show (0:Int)<=2/\(2:Int) < (4:Nat);decide) ?_;intro x hx
 cases (show some c=some x from hx)
 refine Ob.mk (by show (0:Int)<=3/\(3:Int) < (4:Nat);decide) ?_;intro x hx
 cases (show some d=some x from hx)
 refine zb.t (ztZ b c d hb hc hd) ?_;generalize hD:max (uW a b c) (uW b c d)=D at*;have rD:0<=D/\D<=35184372088832:=oM;refine ⟨Nat,fun i=>⟨[(1,i64 tol),(2,i64 9),(8,i64 D),(9,i64 (i:Int))],[],0,62,0⟩,fun i=>1<=i/\i<=65/\yA (9*D) tol (65 - i) i=yA (9*D) tol 64 1,fun i=>65 - i,1,?_,?_,?_⟩
 ·exact ⟨dC,dC,rfl⟩
 ·exact kr [] ⟨rfl,rfl,congrArg (fun q=>some (i64 q)) hD,rfl,trivial⟩ trivial
 rintro i ⟨h3,h4,h5⟩
 refine Br.mk (fun g=>?_) (fun g=>?_)
 ·have g:(i:Int)<=64:=g;have ch:=zkT (i:=i) oM ht;have st:=zkS (need:=9*D) (tol:=tol) (i:=i) oM;rw [h5] at st;(iterate 7 refine Ar.o ?_);refine Br.mk (fun k=>?_) (fun k=>?_)
  ·have k:enough (9*D) tol i:=k;exact zcM (by rw [e,st,if_pos k])
  ·have k:¬enough (9*D) tol i:=k;refine Ar.o ?_;refine ⟨i+1,⟨oM,oM,by rw [st,if_neg k]⟩,zi [],by dsimp only;omega⟩
 ·have g:¬(i:Int)<=64:=g;have h6:i=65:=oM;subst h6;exact zcM (by rw [e,← h5];rfl)
theorem zm2(a b c:Pt)(tol:Int)(ha:zP a)(hb:zP b)(hc:zP c):ze Tryz.prog 282 [.agg (ptE a++ptE b++ptE c),i64 tol] [] (zlT (jI a b c tol)) []:=by
 refine zd tok mix Tryz.func282 rfl rfl rfl ?_;refine zim.data ?_;refine Dr.k ?_;have r1:=zbZ ha hb hc;refine zb.t (zfs a b c ha hb hc) ?_;refine ⟨Pt,ptE,[a,b,c],rfl,Ob.o9 ?_⟩;refine zb.t (zjv (uW a b c) tol [a,b,c] (by show 3<=4;decide)) ?_;exact .refl
theorem zt7(a b c:Pt)(tol:Int):ze Tryz.prog 291 [.agg (ptE a++ptE b++ptE c),i64 tol] [] (zlT (jI a b c tol)) []:=by
 refine zd tok mix Tryz.func291 rfl rfl rfl ?_;refine zim.data ?_;refine ⟨Pt,ptE,[a,b,c],rfl,Ob.o0 ?_⟩;have c0:=zut a b c tol;rw [Int.one_mul] at c0;refine zb.see 0 _ c0 rfl rfl rfl ?_;exact .refl
theorem zm3(a b c d:Pt)(tol:Int)(ha:zP a)(hb:zP b)(hc:zP c)(hd:zP d):ze Tryz.prog 287 [.agg (ptE a++ptE b++ptE c++ptE d),i64 tol] [] (zlT (jJ a b c d tol)) []:=by
 refine zd tok mix Tryz.func287 rfl rfl rfl ?_;refine zim.data ?_;refine Dr.k ?_;have r1:=zbZ ha hb hc;refine zb.t (zfs a b c ha hb hc) ?_;have r2:=zbZ hb hc hd;refine zb.t (zfs b c d hb hc hd) ?_;refine Ar.fit (by show -9223372036854775808<=9*max (uW a b c) (uW b c d)/\9*max (uW a b c) (uW b c d)<=9223372036854775807;omega) ?_;refine ⟨Pt,ptE,[a,b,c,d],rfl,Ob.o9 ?_⟩;refine zb.t (zjv (9*max (uW a b c) (uW b c d)) tol [a,b,c,d] (by show 4<=4;decide)) ?_;exact .refl
theorem zt8(a b c d:Pt)(tol:Int):ze Tryz.prog 293 [.agg (ptE a++ptE b++ptE c++ptE d),i64 tol] [] (zlT (jJ a b c d tol)) []:=by
 refine zd tok mix Tryz.func293 rfl rfl rfl ?_;refine zim.data ?_;refine ⟨Pt,ptE,[a,b,c,d],rfl,Ob.o0 ?_⟩;have c0:=zuu a b c d tol;refine zb.see 0 _ c0 rfl rfl rfl ?_;exact .refl
theorem zpf(a b:Int)(ha: -8796093022208<=a/\a<=8796093022208)(hb:0 < b/\b<=1048576):ze Tryz.prog 323 [i64 a,i64 b] [] (i64 (zcD a b)) []:=by
 have td:=tdm (m:=2*a+b) (n:=2*b) oM;have tr:=zkt (m:=2*a+b) (n:=2*b) oM ⟨oM,oM⟩;refine zd tok mix Tryz.func323 rfl rfl rfl ?_;(iterate 3 refine Ar.o ?_);have e:zcD a b=(2*a+b) / (2*b):=rfl;have tr2:=tr.2 oM;have tr1:=tr.1;clear tr;refine Dv.any (by omega:2*b≠0) ?_;refine Ar.fit tr1 ?_;refine Dv.any (by omega:2*b≠0) ?_;refine Br.mk (fun k=>?_) (fun k=>?_)
 ·have k:(2*a+b).tmod (2*b) < 0:=k;refine Ar.fit (by unfold R64 at tr1;omega) ?_;exact zm (by rw [e];omega)
 ·have k:¬(2*a+b).tmod (2*b) < 0:=k;exact zm (by rw [e];omega)
theorem ztK(a b:Int)(ha: -8796093022208<=a/\a<=8796093022208)(hb:0 < b/\b<=1048576):ze Tryz.prog 328 [i64 a,i64 b] [] (i64 (zcD a b)) []:=by
 have td:=tdm (m:=2*a+b) (n:=2*b) oM;have tr:=zkt (m:=2*a+b) (n:=2*b) oM ⟨oM,oM⟩;refine zd tok mix Tryz.func328 rfl rfl rfl ?_;(iterate 3 refine Ar.o ?_);have e:zcD a b=(2*a+b) / (2*b):=rfl;have tr2:=tr.2 oM;have tr1:=tr.1;clear tr;refine Dv.any (by omega:2*b≠0) ?_;refine Ar.fit tr1 ?_;(iterate 2 refine Ar.o ?_);refine Br.mk (fun k=>?_) (fun k=>?_)
 ·have k:2*a+b < 0:=k;(iterate 3 refine Ar.o ?_);refine Dv.any (by omega:2*b≠0) ?_;refine Br.mk (fun k2=>?_) (fun k2=>?_)
  ·have k2:¬(2*a+b).tmod (2*b)=0:=k2;refine Ar.fit (by unfold R64 at tr1;omega) ?_;exact zm (by rw [e];omega)
  ·have k2:(2*a+b).tmod (2*b)=0:=Decidable.not_not.1 k2;exact zm (by rw [e];omega)
 ·have k:¬2*a+b < 0:=k;exact zm (by rw [e];omega)
theorem zt4(i n:Int):ze Tryz.prog 326 [i64 i,i64 n] [] (pr (1<=n/\n<=64/\0<=i/\i<=n)) []:=by
 refine zd tok mix Tryz.func326 rfl rfl rfl ?_;refine Br.mk (fun h1=>?_) (fun h1=>zc (fun k=>h1 k.1));refine Br.mk (fun h2=>?_) (fun h2=>zc (fun k=>h2 k.2.1));refine Br.mk (fun h3=>?_) (fun h3=>zc (fun k=>h3 k.2.2.1));exact zu ⟨fun h4=>⟨h1,h2,h3,h4⟩,fun h=>h.2.2.2⟩
theorem zpg(l:List Pt)(i n:Int)(hl:l.length<=4):ze Tryz.prog 321 [.sl ptE l,i64 i,i64 n] [] (pr (zmV l i n)) []:=by
 refine zd tok mix Tryz.func321 rfl rfl rfl ?_;intro hl1;refine ⟨Nat,fun k=>⟨[(1,i64 i),(2,i64 n),(9,.sl ptE l),(10,i64 (l.length:Int)),(11,i64 (k:Int))],[],0,34,0⟩,fun k=>k<=l.length/\∀p∈l.take k,zP p,fun k=>l.length - k,0,?_,?_,?_⟩
 ·exact ⟨Nat.zero_le _,fun p hp=>by cases hp⟩
 ·exact zi []
 rintro k ⟨h1,h2⟩
 refine Br.mk (fun g=>?_) (fun g=>?_)
 ·have g:(k:Int) < l.length:=g;refine Ob.o ?_;intro x hx;have hx:l[k]? =some x:=hx;refine zb.t (jG x) ?_;refine Br.mk (fun b=>zc fun q=>b (q.1 x (List.mem_of_getElem? hx))) (fun b=>?_);have b:=Decidable.not_not.1 b;refine Ar.o ?_;refine ⟨k+1,⟨oM,fun p hp=>?_⟩,zi [],by dsimp only;omega⟩;rw [List.take_add_one,hx] at hp
  rcases List.mem_append.1 hp with hp | hp
  ·exact h2 p hp
  ·simp at hp;rw [hp];exact b
 have g:¬(k:Int) < l.length:=g;have hv:∀p∈l,zP p:=by rw [List.take_of_length_le oM] at h2;exact h2
 refine Br.mk (fun h1=>?_) (fun h1=>zc (fun k=>h1 k.2.1));refine Br.mk (fun h2=>?_) (fun h2=>zc (fun k=>h2 k.2.2.1));refine Br.mk (fun h3=>?_) (fun h3=>zc (fun k=>h3 k.2.2.2.1));exact zu ⟨fun h4=>⟨hv,h1,h2,h3,h4⟩,fun h=>h.2.2.2.2⟩
theorem zqZ{k i n x y z:Int}(hk:0<=k/\k<=64)(hi:0<=i/\i<=64)(hn:1<=n/\n<=64)(hx: -1048576<=x/\x<=1048576)(hy: -1048576<=y/\y<=1048576)(hz: -1048576<=z/\z<=1048576):
  (-4096<=k*k/\k*k<=4096)/\(-4294967296<=k*k*x/\k*k*x<=4294967296)/\(-8192<=2*i*k/\2*i*k<=8192)/\(-8589934592<=2*i*k*y/\2*i*k*y<=8589934592)/\
  (-4096<=i*i/\i*i<=4096)/\(-4294967296<=i*i*z/\i*i*z<=4294967296)/\(0 < n*n/\n*n<=4096):=by
 have h1:=yn (A:=64) (B:=64) (a:=k) (b:=k) oM oM;have h2:=yn (A:=4096) (B:=1048576) (a:=k*k) (b:=x) oM oM;have h3:=yn (A:=128) (B:=64) (a:=2*i) (b:=k) oM oM;have h4:=yn (A:=8192) (B:=1048576) (a:=2*i*k) (b:=y) oM oM;have h5:=yn (A:=64) (B:=64) (a:=i) (b:=i) oM oM;have h6:=yn (A:=4096) (B:=1048576) (a:=i*i) (b:=z) oM oM;have h7:=yn (A:=64) (B:=64) (a:=n) (b:=n) oM oM;have h8:=Int.mul_pos (show 0 < n by omega) (show 0 < n by omega);omega
theorem zq0{k i n x y z u:Int}(hk:0<=k/\k<=64)(hi:0<=i/\i<=64)(hn:1<=n/\n<=64)(hx: -1048576<=x/\x<=1048576)(hy: -1048576<=y/\y<=1048576)(hz: -1048576<=z/\z<=1048576)(hu: -1048576<=u/\u<=1048576):
  ((-4096<=k*k/\k*k<=4096)/\(-262144<=k*k*k/\k*k*k<=262144)/\(-274877906944<=k*k*k*x/\k*k*k*x<=274877906944))/\
  ((-12288<=3*i*k/\3*i*k<=12288)/\(-786432<=3*i*k*k/\3*i*k*k<=786432)/\(-824633720832<=3*i*k*k*y/\3*i*k*k*y<=824633720832))/\
  ((-12288<=3*i*i/\3*i*i<=12288)/\(-786432<=3*i*i*k/\3*i*i*k<=786432)/\(-824633720832<=3*i*i*k*z/\3*i*i*k*z<=824633720832))/\
  ((-4096<=i*i/\i*i<=4096)/\(-262144<=i*i*i/\i*i*i<=262144)/\(-274877906944<=i*i*i*u/\i*i*i*u<=274877906944))/\((0 < n*n/\n*n<=4096)/\(0 < n*n*n/\n*n*n<=262144)):=by
 have h1:=yn (A:=64) (B:=64) (a:=k) (b:=k) oM oM;have h2:=yn (A:=4096) (B:=64) (a:=k*k) (b:=k) oM oM;have h3:=yn (A:=262144) (B:=1048576) (a:=k*k*k) (b:=x) oM oM;have h4:=yn (A:=192) (B:=64) (a:=3*i) (b:=k) oM oM;have h5:=yn (A:=12288) (B:=64) (a:=3*i*k) (b:=k) oM oM;have h6:=yn (A:=786432) (B:=1048576) (a:=3*i*k*k) (b:=y) oM oM;have h7:=yn (A:=192) (B:=64) (a:=3*i) (b:=i) oM oM;have h8:=yn (A:=12288) (B:=64) (a:=3*i*i) (b:=k) oM oM
 have h9:=yn (A:=786432) (B:=1048576) (a:=3*i*i*k) (b:=z) oM oM;have i1:=yn (A:=64) (B:=64) (a:=i) (b:=i) oM oM;have i2:=yn (A:=4096) (B:=64) (a:=i*i) (b:=i) oM oM;have i3:=yn (A:=262144) (B:=1048576) (a:=i*i*i) (b:=u) oM oM;have n1:=yn (A:=64) (B:=64) (a:=n) (b:=n) oM oM;have n2:=yn (A:=4096) (B:=64) (a:=n*n) (b:=n) oM oM;have n3:=Int.mul_pos (show 0 < n by omega) (show 0 < n by omega);have n4:=Int.mul_pos n3 (show 0 < n by omega);omega
theorem zgL(x y z k i n:Int)(hk:0<=k/\k<=64)(hi:0<=i/\i<=64)(hn:1<=n/\n<=64)(hx: -1048576<=x/\x<=1048576)(hy: -1048576<=y/\y<=1048576)(hz: -1048576<=z/\z<=1048576):
  ze Tryz.prog 322 [i64 x,i64 y,i64 z,.ptr [i64 k],.ptr [i64 i],.ptr [i64 n]] [] (i64 (zcD (k*k*x+2*i*k*y+i*i*z) (n*n))) []:=by
 have t:=zqZ hk hi hn hx hy hz;refine zd tok mix Tryz.func322 rfl rfl rfl ?_;(iterate 10 refine Ar.o ?_);refine zb.t (zpf (k*k*x+2*i*k*y+i*i*z) (n*n) oM oM) ?_;exact .refl
theorem zm4{a b c:Pt}{i n:Int}(h:zmV [a,b,c] i n):uB a b c i n=⟨q1 i n a.x b.x c.x,q1 i n a.y b.y c.y⟩:=by
 unfold uB;rw [zaR h]
theorem zph(a b c:Pt)(i n:Int):ze Tryz.prog 286 [.agg (ptE a++ptE b++ptE c),i64 i,i64 n] [] (.agg (ptE (uB a b c i n))) []:=by
 refine zd tok mix Tryz.func286 rfl rfl rfl ?_;refine zim.data ?_;refine Dr.k ?_;refine ⟨Pt,ptE,[a,b,c],rfl,Ob.o9 ?_⟩;refine zb.t (zpg [a,b,c] i n (by show 3<=4;decide)) ?_;refine Br.mk (fun h=>?_) (fun h=>?_)
 ·refine zaB (show SV.agg (ptE zp)=_ from ?_);unfold uB;rw [if_pos h]
 have h:=Decidable.not_not.1 h;obtain ⟨hv,n1,n2,i1,i2⟩:=h;have ha:=hv a (by simp);have hb:=hv b (by simp);have hc:=hv c (by simp);refine Ar.o ?_;refine Dr.k ?_;refine zb.t (zgL a.x b.x c.x (n - i) i n oM oM oM ha.1 hb.1 hc.1) ?_;refine zb.t (zgL a.y b.y c.y (n - i) i n oM oM oM ha.2 hb.2 hc.2) ?_;exact zaB (congrArg (fun p=>SV.agg (ptE p)) (zm4 ⟨hv,n1,n2,i1,i2⟩).symm)
theorem zul(a b c:Pt)(i n:Int):ze Tryz.prog 292 [.agg (ptE a++ptE b++ptE c),i64 i,i64 n] [] (.agg (ptE (uB a b c i n))) []:=by
 refine zd tok mix Tryz.func292 rfl rfl rfl ?_;refine zim.data ?_
 have bad:¬zmV [a,b,c] i n->LE (.agg (ptE zp)) (.agg (ptE (uB a b c i n))):=fun h=>by
  refine zaB ?_;unfold uB;rw [if_pos h]
 refine zb.t (zt4 i n) ?_;refine Br.mk (fun h=>bad fun k=>h ⟨k.2.1,k.2.2.1,k.2.2.2.1,k.2.2.2.2⟩) (fun h=>?_);refine ⟨Pt,ptE,[a,b,c],rfl,Ob.o0 ?_⟩;refine zb.see 1 _ (ztS [a,b,c]) rfl rfl rfl ?_;refine Br.mk (fun h2=>bad fun k=>h2 k.1) (fun h2=>?_);obtain ⟨n1,n2,i1,i2⟩:=Decidable.not_not.1 h;have hv:=Decidable.not_not.1 h2;have ha:=hv a (by simp);have hb:=hv b (by simp);have hc:=hv c (by simp);have t1:=zqZ (k:=n - i) (i:=i) (n:=n) oM oM oM ha.1 hb.1 hc.1;have t2:=zqZ (k:=n - i) (i:=i) (n:=n) oM oM oM ha.2 hb.2 hc.2;refine Ar.o ?_
 (iterate 19 refine Ar.o ?_);refine zb.t (ztK ((n - i)*(n - i)*a.x+2*i*(n - i)*b.x+i*i*c.x) (n*n) oM oM) ?_;refine Ar.o ?_;refine zb.t (ztK ((n - i)*(n - i)*a.y+2*i*(n - i)*b.y+i*i*c.y) (n*n) oM oM) ?_;exact zaB (congrArg (fun p=>SV.agg (ptE p)) (zm4 ⟨hv,n1,n2,i1,i2⟩).symm)
theorem zgM(x y z u k i n:Int)(hk:0<=k/\k<=64)(hi:0<=i/\i<=64)(hn:1<=n/\n<=64)(hx: -1048576<=x/\x<=1048576)(hy: -1048576<=y/\y<=1048576)(hz: -1048576<=z/\z<=1048576)(hu: -1048576<=u/\u<=1048576):
  ze Tryz.prog 324 [i64 x,i64 y,i64 z,i64 u,.ptr [i64 k],.ptr [i64 i],.ptr [i64 n]] [] (i64 (zcD (k*k*k*x+3*i*k*k*y+3*i*i*k*z+i*i*i*u) (n*n*n))) []:=by
 have t:=zq0 hk hi hn hx hy hz hu;refine zd tok mix Tryz.func324 rfl rfl rfl ?_;(iterate 19 refine Ar.o ?_);refine zb.t (zpf (k*k*k*x+3*i*k*k*y+3*i*i*k*z+i*i*i*u) (n*n*n) oM oM) ?_;exact .refl
theorem zm5{a b c d:Pt}{i n:Int}(h:zmV [a,b,c,d] i n):uC a b c d i n=⟨c1 i n a.x b.x c.x d.x,c1 i n a.y b.y c.y d.y⟩:=by
 unfold uC;rw [zaR h]
theorem zpi(a b c d:Pt)(i n:Int):ze Tryz.prog 289 [.agg (ptE a++ptE b++ptE c++ptE d),i64 i,i64 n] [] (.agg (ptE (uC a b c d i n))) []:=by
 refine zd tok mix Tryz.func289 rfl rfl rfl ?_;refine zim.data ?_;refine Dr.k ?_;refine ⟨Pt,ptE,[a,b,c,d],rfl,Ob.o9 ?_⟩;refine zb.t (zpg [a,b,c,d] i n (by show 4<=4;decide)) ?_;refine Br.mk (fun h=>?_) (fun h=>?_)
 ·refine zaB (show SV.agg (ptE zp)=_ from ?_);unfold uC;rw [if_pos h]
 have h:=Decidable.not_not.1 h;obtain ⟨hv,n1,n2,i1,i2⟩:=h;have ha:=hv a (by simp);have hb:=hv b (by simp);have hc:=hv c (by simp);have hd:=hv d (by simp);refine Ar.o ?_;refine Dr.k ?_;refine zb.t (zgM a.x b.x c.x d.x (n - i) i n oM oM oM ha.1 hb.1 hc.1 hd.1) ?_;refine zb.t (zgM a.y b.y c.y d.y (n - i) i n oM oM oM ha.2 hb.2 hc.2 hd.2) ?_;exact zaB (congrArg (fun p=>SV.agg (ptE p)) (zm5 ⟨hv,n1,n2,i1,i2⟩).symm)
theorem zum(a b c d:Pt)(i n:Int):ze Tryz.prog 294 [.agg (ptE a++ptE b++ptE c++ptE d),i64 i,i64 n] [] (.agg (ptE (uC a b c d i n))) []:=by
 refine zd tok mix Tryz.func294 rfl rfl rfl ?_;refine zim.data ?_
 have bad:¬zmV [a,b,c,d] i n->LE (.agg (ptE zp)) (.agg (ptE (uC a b c d i n))):=fun h=>by
  refine zaB ?_;unfold uC;rw [if_pos h]
 refine zb.t (zt4 i n) ?_;refine Br.mk (fun h=>bad fun k=>h ⟨k.2.1,k.2.2.1,k.2.2.2.1,k.2.2.2.2⟩) (fun h=>?_);refine ⟨Pt,ptE,[a,b,c,d],rfl,Ob.o0 ?_⟩;refine zb.see 1 _ (ztS [a,b,c,d]) rfl rfl rfl ?_;refine Br.mk (fun h2=>bad fun k=>h2 k.1) (fun h2=>?_);obtain ⟨n1,n2,i1,i2⟩:=Decidable.not_not.1 h;have hv:=Decidable.not_not.1 h2;have ha:=hv a (by simp);have hb:=hv b (by simp);have hc:=hv c (by simp);have hd:=hv d (by simp);have t1:=zq0 (k:=n - i) (i:=i) (n:=n) oM oM oM ha.1 hb.1 hc.1 hd.1
 have t2:=zq0 (k:=n - i) (i:=i) (n:=n) oM oM oM ha.2 hb.2 hc.2 hd.2;(iterate 32 refine Ar.o ?_)
 (iterate 5 refine Ar.o ?_);refine zb.t (ztK ((n - i)*(n - i)*(n - i)*a.x+3*i*(n - i)*(n - i)*b.x+3*i*i*(n - i)*c.x+i*i*i*d.x) (n*n*n) oM oM) ?_;(iterate 2 refine Ar.o ?_);refine zb.t (ztK ((n - i)*(n - i)*(n - i)*a.y+3*i*(n - i)*(n - i)*b.y+3*i*i*(n - i)*c.y+i*i*i*d.y) (n*n*n) oM oM) ?_;exact zaB (congrArg (fun p=>SV.agg (ptE p)) (zm5 ⟨hv,n1,n2,i1,i2⟩).symm)
def zcN(prev:SV->SV)(lm:Nat->Option Mem):SV->SV
 |.loc k off=>(match lm k with
  | some (.box _ cs)=>.dptr ((cs.map prev).drop off)
  | _=>.junk)
 |.own k=>(match lm k with
  | some (.arr _ enc _ xs)=>.sl enc xs
  | _=>.junk)
 | .fn f cs=>.dfn f (frzs prev lm cs)
 | .agg cs=>.agg (frzs prev lm cs)
 | .ifc t s=>.ifc t (zcN prev lm s)
 | .val v=>.val v
 | .pr p i=>.pr p i
 | .sl enc xs=>.sl enc xs
 | .dptr cs=>.dptr cs
 | .dfn f cs=>.dfn f cs
 | .bm f cs=>.bm f cs
 | .op v=>.op v
 | .nils=>.nils
 | .anyb=>.anyb
 | .full enc xs=>.full enc xs
 | _=>.junk
 where
 frzs (prev:SV->SV) (lm:Nat->Option Mem):List SV->List SV
  | []=>[]
  | c::cs=>zcN prev lm c::frzs prev lm cs
def frz(lm:Nat->Option Mem):Nat->SV->SV
 | 0=>zcN (fun _=>.junk) lm
 | n+1=>zcN (frz lm n) lm
def zf7(lm:Nat->Option Mem)(n:Nat)(s:SV):SV:=
 match s with
 | .tup cs=>.tup (cs.map (frz lm n))
 | s=>frz lm n s
theorem zft(prev:SV->SV)(lm:Nat->Option Mem):∀cs,zcN.frzs prev lm cs=cs.map (zcN prev lm)
 | []=>rfl
 | c::cs=>by rw [zcN.frzs,zft prev lm cs];rfl
section
variable {Keep:Nat->Prop} {M:List (Nat×Mem)} {ρ:zh} {w:World} {lm:Nat->Option Mem}
theorem zpj (hlm:∀k m,lm k=some m->(k,m)∈M) (hm:zz Keep M ρ w) {prev:SV->SV}
  (hp:∀{s:SV} {v:Value},G (fun b=>Keep b∨Own M ρ b) (Own M ρ) ρ w s v->D Keep w (prev s) v):
  ∀(s:SV) {v:Value},G (fun b=>Keep b∨Own M ρ b) (Own M ρ) ρ w s v->D Keep w (zcN prev lm s) v:=by
 have hsub:∀b,Keep b->Keep b∨Own M ρ b:=fun b h=>.inl h
 intro s
 induction s using SV.rec (motive_2:=fun cs=>∀{vs:List Value},Gs (fun b=>Keep b∨Own M ρ b) (Own M ρ) ρ w cs vs->∀(j:Nat) (s:SV) (v:Value),(zcN.frzs prev lm cs)[j]? =some s->vs[j]? =some v->D Keep w s v) with
 | val v=>intro u hg;rw [hg.val_inv];exact .val v
 | pr p i=>intro u hg;rw [hg.pr_inv];exact .pr p i
 | sl enc xs=>intro u hg;exact hg.sl_inv.less hsub
 | nils=>intro u hg;obtain ⟨a,rfl⟩:=hg.nils_inv;exact .nils a
 | anyb=>intro u hg;obtain ⟨b,rfl⟩:=hg.anyb_inv;exact .anyb b
 | full enc xs=>intro u hg;obtain ⟨a,rfl,hd⟩:=hg.full_inv;exact .full enc xs a (hd.less hsub)
 | dptr cs _=>intro u hg;cases hg with | d _ _ h=>exact h.less hsub
 | dfn f cs _=>intro u hg;cases hg with | d _ _ h=>exact h.less hsub
 | bm f cs _=>intro u hg;cases hg with | d _ _ h=>exact h.less hsub
 | op v=>intro u hg;cases hg with | d _ _ h=>exact h.less hsub
 | ifc t s ih=>
  intro u hg;obtain ⟨v,rfl,hv⟩:=hg.ifc_inv;exact .ifc t _ v (ih hv)
 | agg cs ih=>
  intro u hg;obtain ⟨vs,rfl,hvs⟩:=hg.agg_inv;exact .agg _ vs (by rw [zft,List.length_map];exact hvs.1) (ih hvs)
 | fn f cs ih=>
  intro u hg;obtain ⟨vs,rfl,hvs⟩:=hg.fn_inv;exact .dfn f _ vs (by rw [zft,List.length_map];exact hvs.1) (ih hvs)
 | loc k off=>
  intro u hg;obtain ⟨b,hρ,rfl⟩:=hg.loc_inv;simp only [zcN]
  split
  ·rename_i T cs hk;have hmem:=hlm k _ hk;obtain ⟨b',vs,h1,h2,h3,h4,h5⟩:=hm.rel k _ hmem;rw [hρ] at h1;cases h1
   have hb:=hm.old b ⟨k,_,_,hmem,hρ,rfl⟩;refine .dptr _ b off (fun j=>(vs[off+j]?).getD undef) hb.1 hb.2 (fun j hj=>?_) (fun j s hs=>?_)
   ·have hj':off+j < vs.length:=by simp at hj;omega
    rw [zcd h2];simp only [List.getElem?_eq_getElem hj',Option.getD_some];exact ⟨trivial,h4 _ (List.getElem_mem hj')⟩
   ·rw [List.getElem?_drop,List.getElem?_map] at hs
    cases hc:cs[off+j]? with
    | none=>simp [hc] at hs
    | some c=>
     simp [hc] at hs;subst hs;have hj':off+j < vs.length:=by have:=(List.getElem?_eq_some_iff.1 hc).1;omega
     rw [List.getElem?_eq_getElem hj',Option.getD_some];exact hp (h5 _ c _ hc (List.getElem?_eq_getElem hj'))
  ·exact .junk _
 | own k=>
  intro u hg;obtain ⟨hρ,h1⟩:=hg.own_inv;simp only [zcN]
  split
  ·rename_i T α enc sz xs hk;have hmem:=hlm k _ hk;exact zew hm hmem (fun b hb=>.inl hb) (fun v b hv hb hk=>(hm.old b ⟨k,_,v,hmem,hv,hb⟩).2 hk) hρ
  ·exact .junk _
 | ptr cs _=>intro u _;exact .junk _
 | eloc _ _ _ _=>intro u _;exact .junk _
 | win _ _ _ _=>intro u _;exact .junk _
 | tup cs _=>intro u _;exact .junk _
 | junk=>intro u _;exact .junk _
 | nil=>rename_i vs _ j s v h _;simp [zcN.frzs] at h
 | cons c cs ihc ihcs=>
  rename_i vs hg j s v h hv;obtain ⟨v0,vs',rfl,h1,h2⟩:=hg.cons_inv
  cases j with
  | zero=>simp [zcN.frzs] at h hv;subst h;subst hv;exact ihc h1
  | succ j=>exact ihcs h2 j s v (by simpa [zcN.frzs] using h) (by simpa using hv)
theorem zlU(hlm:∀k m,lm k=some m->(k,m)∈M)(hm:zz Keep M ρ w):∀(n:Nat) {s:SV} {v:Value},G (fun b=>Keep b∨Own M ρ b) (Own M ρ) ρ w s v->D Keep w (frz lm n s) v
 | 0,s,_,h=>zpj hlm hm (fun _=>.junk _) s h
 | n+1,s,_,h=>zpj hlm hm (fun h=>zlU hlm hm n h) s h
end
def endF(n:Nat)(Γ:List (TypeId×TI))(rs:List ResultVar)(r:SV)(e:Ex)(σ:St):Prop:=
 match e with
 | .exit _=>False
 | _=>vF σ Γ rs fun s=>LE (zf7 (zE σ.M) n s) r
theorem zt0 (n:Nat) {P:Program} {Γ:List (TypeId×TI)} (hT:TOK P Γ) (hm:P.follows .mixedOrders=true) {f:FuncId} {fn:Func} {c:Code} {args:List SV} {r:SV}
  (hf:P.funcs[f]? =some fn) (hb:fn.body=some c) (hn:(fn.name== "runtime.NumGoroutine")=false) (hle:Nat.ble args.length fn.ntmps=true)
  (h:ztB P Γ c ⟨qE 0 args,[],0,fn.ntmps,0⟩ (endF n Γ fn.results.toList r)):ze P f args [] r []:=by
 refine vi hT hm hf hb hn hle h (fun e σ h=>⟨σ,.refl,h⟩) (fun e σ hq he=>?_) (fun id σ hq=>hq)
 have hq:vF σ Γ fn.results.toList fun s=>LE (zf7 (zE σ.M) n s) r:=by
  cases e with
  | exit id=>exact absurd rfl (he id)
  | normal=>exact hq
  | ret=>exact hq
 obtain ⟨s,hle,h1⟩:=qZ hT hq;refine ⟨s,h1,fun {E ρ a w v} hr hW _ hg=>⟨ρ,?_,?_,?_⟩⟩
 ·have hs:=hr.stp;exact ⟨hs.os,hs.tape,hs.output,hs.size,fun b hb hn=>hs.block b hb fun h=>hn ((hW b).1 h),fun b hb=>absurd hb zG,hs.rho⟩
 ·exact (kT hr.mem.kp fun _ _ h=>hr.mem.glc h)
 ·have hd:∀{s:SV} {v:Value},G (fun b=>E.Keep b∨Own σ.M ρ b) (Own σ.M ρ) ρ w s v->D (fun b=>E.Keep b∨Own [] ρ b) w (frz (zE σ.M) n s) v:=fun h=>
   (zlU (fun k m h=>zn h) hr.mem n h).less fun b hb=>hb.resolve_right zG
  refine hle _ _ _ _ _ ?_;unfold zf7
  split
  ·rename_i cs;obtain ⟨vs,rfl,hvs⟩:=hg.tup_inv;refine .tup _ vs (by rw [List.length_map];exact hvs.1) fun j s v hs hv=>?_
   rw [List.getElem?_map] at hs
   cases hc:cs[j]? with
   | none=>simp [hc] at hs
   | some c=>
    simp [hc] at hs;subst hs;exact .d _ _ (hd (hvs.2 j c v hc hv))
  ·exact .d _ _ (hd hg)
theorem zjw (n:Nat) {P:Program} {Γ:List (TypeId×TI)} (hT:TOK P Γ) (hm:P.follows .mixedOrders=true) {f:FuncId} {fn:Func} {c:Code} {args:List SV} {M:List (Nat×Mem)} {r:SV}
  (hf:P.funcs[f]? =some fn) (hb:fn.body=some c) (hn:(fn.name== "runtime.NumGoroutine")=false) (hle:Nat.ble args.length fn.ntmps=true)
  (h:ztB P Γ c ⟨qE 0 args,M,M.length,fn.ntmps,M.length⟩ (endF n Γ fn.results.toList r)):ze P f args M r []:=by
 refine vi hT hm hf hb hn hle h (fun e σ h=>⟨σ,.refl,h⟩) (fun e σ hq he=>?_) (fun id σ hq=>hq)
 have hq:vF σ Γ fn.results.toList fun s=>LE (zf7 (zE σ.M) n s) r:=by
  cases e with
  | exit id=>exact absurd rfl (he id)
  | normal=>exact hq
  | ret=>exact hq
 obtain ⟨s,hle,h1⟩:=qZ hT hq;refine ⟨s,h1,fun {E ρ a w v} hr hW _ hg=>⟨ρ,?_,?_,?_⟩⟩
 ·have hs:=hr.stp;exact ⟨hs.os,hs.tape,hs.output,hs.size,fun b hb hn=>hs.block b hb fun h=>hn ((hW b).1 h),fun b hb=>absurd hb zG,hs.rho⟩
 ·exact (kT hr.mem.kp fun _ _ h=>hr.mem.glc h)
 ·have hd:∀{s:SV} {v:Value},G (fun b=>E.Keep b∨Own σ.M ρ b) (Own σ.M ρ) ρ w s v->D (fun b=>E.Keep b∨Own [] ρ b) w (frz (zE σ.M) n s) v:=fun h=>
   (zlU (fun k m h=>zn h) hr.mem n h).less fun b hb=>hb.resolve_right zG
  refine hle _ _ _ _ _ ?_;unfold zf7
  split
  ·rename_i cs;obtain ⟨vs,rfl,hvs⟩:=hg.tup_inv;refine .tup _ vs (by rw [List.length_map];exact hvs.1) fun j s v hs hv=>?_
   rw [List.getElem?_map] at hs
   cases hc:cs[j]? with
   | none=>simp [hc] at hs
   | some c=>
    simp [hc] at hs;subst hs;exact .d _ _ (hd (hvs.2 j c v hc hv))
  ·exact .d _ _ (hd hg)
structure jl (F:Fence):Prop where
 fn:∀f,F.fn f
 depth:F.depth=none
 alive:F.alive=false
theorem jl.wide:jl Fence.wide:=⟨fun _=>trivial,rfl,rfl⟩
theorem jl.inRound{F:Fence}(h:jl F)(l:Nat):jl (F.inRound l):=⟨h.fn,h.depth,h.alive⟩
theorem jl.room{F:Fence}(h:jl F)(n:Nat):F.room n:=fun d hd=>by rw [h.depth] at hd;cases hd
theorem jl.fenced{F:Fence}(h:jl F)(P:Program)(m:Machine):m.fenced P F:=by
 intro g _;exact ⟨fun ha=>(by rw [h.alive] at ha;cases ha),.inl (h.fn _),fun f _=>h.fn f,h.room _⟩
theorem jl.steps{F:Fence}(h:jl F){P:Program}{m m':Machine}(hs:Steps P m m'):StepsIn (Machine.fenced P F) P m m':=
 (StepsIn.of_steps hs).mono fun m _=>h.fenced P m
theorem jl.comes{F:Fence}(h:jl F){P:Program}{m m':Machine}{e:Ending}(hs:Comes P m m' e):ComesIn (Machine.fenced P F) P m m' e:=by
 cases e with
 | returned v=>exact h.steps hs
 | panicked c=>exact h.steps hs
 | outgrown=>exact hs
theorem jl.calls{F:Fence}(h:jl F){n:Nat}{P:Program}{f:FuncId}{args:Array Value}{w:World}{R:Ending->World->Prop}(hc:Calls P f args w R):CallsIn F n P f args w R:=
 ⟨h.fn f,fun cs _=>let ⟨e,w',fr,r,s,x⟩:=hc cs;⟨e,w',fr,r,h.comes s,x⟩⟩
theorem jl.rows{F:Fence}(h:jl F){n:Nat}{P:Program}{row:String}{args:Array Value}{w:World}{R:Value->World->Prop}(hc:Go.Rows P row args w R):RowsIn F n P row args w R:=
 fun c cs _=>let ⟨v,w',r,s⟩:=hc c cs;⟨v,w',r,h.steps s⟩
theorem jl.need{F:Fence}(h:jl F){n:Nat}:F.depth.isSome=true->1<=n:=fun hd=>by rw [h.depth] at hd;cases hd
theorem jl.op {F:Fence} (h:jl F) {n:Nat} {P:Program} {o:Oper} {a:Act} {w:World} {K:Act->World->Prop} {Q:Exit->Act->World->Prop} (hd:∀c,o.op≠.defer c)
  (hw:o.wp P a w K Q):o.wpIn F n P a w K Q:=by
 refine ⟨fun f _=>h.fn f,?_⟩;rw [Oper.semAt_eq _ _ _ hd];unfold Oper.wp at hw;generalize (execOp a.eval o).run P w=r at*
 cases r with
 | ok x w'=>
  cases x <;> simp only [Oper.upon,Oper.uponIn] at hw ⊢
  case value=>exact hw
  case skip=>exact hw
  case defer=>exact hw
  case enter=>exact ⟨h.need,(h.calls hw).mono fun e w'' he=>by cases e <;> exact he⟩
  case row=>exact ⟨h.need,h.rows hw⟩
 | halt x w'=>cases x <;> simp only [Oper.upon,Oper.uponIn] at hw ⊢;exact hw
def zjx(o:Oper):Bool:=match o.op with | .defer _=>false | _=>true
theorem zb0{o:Oper}(h:zjx o=true):∀c,o.op≠.defer c:=fun c e=>by unfold zjx at h;rw [e] at h;cases h
def jm(l:List Oper):Bool:=l.all zjx
theorem zfu{l:List Oper}(h:jm l=true){o:Oper}(ho:o∈l):∀c,o.op≠.defer c:=zb0 (List.all_eq_true.1 h o ho)
theorem jl.list{F:Fence}(h:jl F){n:Nat}{P:Program}{ops:Array Oper}{Q:Exit->Act->World->Prop}(hQ:∀a w,¬Q .outgrown a w):∀{l:List Oper} {a:Act} {w:World},jm l=true->
  wpList P ops Q l a w->wpListIn F n P ops Q l a w
 | [],_,_,_,hw=>hw
 | o::r,a,w,hd,hw=>by
  have hd':zjx o=true/\jm r=true:=by unfold jm at hd ⊢;rw [List.all_cons,Bool.and_eq_true] at hd;exact hd
  unfold wpList at hw;unfold wpListIn
  split
  ·rename_i hwt;rw [if_pos hwt] at hw;have hw:=hw.resolve_right fun k=>by obtain ⟨_,a',w',k⟩:=k;exact hQ _ _ k
   exact h.op (zb0 hd'.1) (Oper.wp_mono (fun a w hk=>h.list hQ hd'.2 hk) hw)
  ·rename_i hwt;rw [if_neg hwt] at hw;exact ⟨fun f _=>h.fn f,h.list hQ hd'.2 hw⟩
theorem jl.any{F:Fence}(h:jl F){n:Nat}{P:Program}{md:Region.Mode}{ops:Array Oper}{Q:Exit->Act->World->Prop}(hQ:∀a w,¬Q .outgrown a w)(hd:jm ops.toList=true):
  ∀{fuel:Nat} {listed:Array Bool} {a:Act} {w:World},wpAny P md ops Q fuel listed a w->wpAnyIn F n P md ops Q fuel listed a w
 | 0,_,_,_,hw=>hw
 | fuel+1,listed,a,w,hw=>by
  refine ⟨hw.1,fun i hi=>?_⟩;have:=hw.2 i hi;unfold wpOp at this;unfold wpOpIn
  cases ho:ops[i]? with
  | none=>rw [ho] at this;exact h.any hQ hd this
  | some o=>
   rw [ho] at this;dsimp only at this ⊢;have hdo:=zfu hd (o:=o) (by rw [Array.mem_toList_iff];exact Array.mem_of_getElem? ho)
   split
   ·rename_i hwt;rw [if_pos hwt] at this;have:=this.resolve_right fun k=>by obtain ⟨_,a',w',k⟩:=k;exact hQ _ _ k
    exact h.op hdo (Oper.wp_mono (fun a w hk=>h.any hQ hd hk) this)
   ·rename_i hwt;rw [if_neg hwt] at this;exact ⟨fun f _=>h.fn f,h.any hQ hd this⟩
def jV:Code->Bool
 | .region _ ops _=>jm ops.toList
 | .seq x y=>jV x&&jV y
 | .cond _ x y=>jV x&&jV y
 | .block _ c=>jV c
 | .loop c=>jV c
 | .scope _=>false
 | _=>true
theorem jT.grown{E:Env}{Q:Ex->St->Prop}(a:Act)(w:World):¬jT E Q .outgrown a w:=fun h=>h
theorem zm6 {F:Fence} (hF:jl F) {n:Nat} {P:Program} {Γ:List (TypeId×TI)} (hT:TOK P Γ) (hm:P.follows .mixedOrders=true) {E:Env} {id:Nat} {ops:Array Oper} {draw:Bool} {σ:St} {Q:Ex->St->Prop} {ρ:zh} {a:Act} {w:World}
  (hd:jm ops.toList=true) (hr:Rel E σ ρ a w) (h:ztB P Γ (.region id ops draw) σ Q):(Code.region id ops draw).wpIn F n P (jT E Q) a w:=by
 cases draw with
 | false=>
  have h:jY P Γ false ops.toList ops.toList 0 σ (Q .normal):=h;refine wpIn_region_list (hF.list jT.grown hd ?_);have:=zd5 (Q:=jT E Q) hT (fun σ ρ a w h hr=>⟨σ,ρ,h,hr⟩) hr h
  simpa using this
 | true=>
  have h:Dr (ya ops.toList=true) (jY P Γ true ops.toList ops.toList 0 σ (Q .normal)) (Ob (zbT ops.toList=true) (ul P Γ ops.toList ops.toList 0 [] σ (Q .normal))):=h;refine wpIn_region_any hm (hF.any jT.grown hd ?_)
  rcases h with ⟨h1,h2⟩ | ⟨h1,h2⟩
  ·exact zaA hT hr h1 h2 fun σ ρ a w h hr=>⟨σ,ρ,h,hr⟩
  ·exact zcq hT hr h1 h2 fun σ ρ a w h hr=>⟨σ,ρ,h,hr⟩
theorem yW {F:Fence} {n:Nat} {P:Program} {Q:Exit->Act->World->Prop} {a:Act} {w:World} {c:Code} (I:Nat->Act->World->Prop) (n₀:Nat) (h₀:I n₀ a w)
  (round:∀m a w,I m a w->c.wpIn F n P (Exit.then (fun a' w'=>∃m',m' < m/\I m' a' w') Q) a w):(Code.loop c).wpIn F n P Q a w:=by
 refine wpIn_loop (fun a w=>∃m,I m a w) (fun a w=>leastOf (fun m=>I m a w)) ⟨n₀,h₀⟩ ?_;intro a w hI;refine wpIn_mono (round _ a w (leastOf_spec hI).1) ?_;intro e a' w' hq
 cases e with
 | normal=>
  obtain ⟨m',hlt,hI'⟩:=hq;exact show (∃m,I m a' w')/\leastOf (fun m=>I m a' w') < leastOf (fun m=>I m a w) from ⟨⟨m',hI'⟩,Nat.lt_of_le_of_lt ((leastOf_spec ⟨m',hI'⟩).2 m' hI') hlt⟩
 | exit id=>exact hq
 | goto l=>exact hq
 | ret=>exact hq
 | panic ch=>exact hq
 | outgrown=>exact hq
theorem jP{F:Fence}(hF:jl F){n:Nat}{P:Program}{Γ:List (TypeId×TI)}(hT:TOK P Γ)(hm:P.follows .mixedOrders=true){E:Env}:∀(c:Code) {σ:St} {Q:Ex->St->Prop} {ρ:zh} {a:Act} {w:World},
  jV c=true->Rel E σ ρ a w->ztB P Γ c σ Q->c.wpIn F n P (jT E Q) a w
 | .skip,σ,Q,ρ,a,w,_,hr,h=>wpIn_skip ⟨σ,ρ,h,hr⟩
 | .region id ops draw,σ,Q,ρ,a,w,hd,hr,h=>zm6 hF hT hm hd hr h
 | .seq x y,σ,Q,ρ,a,w,hd,hr,h=>by
  have hd:jV x=true/\jV y=true:=by unfold jV at hd;rwa [Bool.and_eq_true] at hd
  refine wpIn_seq (wpIn_mono (jP hF hT hm x hd.1 hr h) (fun e a' w' hq=>?_))
  cases e with
  | normal=>obtain ⟨σ',ρ',h',hr'⟩:=hq;exact jP hF hT hm y hd.2 hr' h'
  | exit id=>exact hq
  | ret=>exact hq
  | _=>exact hq.elim
 | .cond c x y,σ,Q,ρ,a,w,hd,hr,h=>by
  have hd:jV x=true/\jV y=true:=by unfold jV at hd;rwa [Bool.and_eq_true] at hd
  obtain ⟨s,h,hs⟩:=zbd h;have hg:=hs (a:=a) (fun t s _ hl=>(hr.regs t s hl).2)
  split at h
  ·exact wpIn_cond_true hg.val_inv (jP hF hT hm x hd.1 hr h)
  ·exact wpIn_cond_false hg.val_inv (jP hF hT hm y hd.2 hr h)
  ·rename_i p i
   by_cases hp:p
   ·exact wpIn_cond_true (by rw [hg.pr_inv];simp [hp]) (jP hF hT hm x hd.1 hr (h.yes hp))
   ·exact wpIn_cond_false (by rw [hg.pr_inv];simp [hp]) (jP hF hT hm y hd.2 hr (h.no hp))
  ·obtain ⟨b,hb⟩:=hg.anyb_inv
   cases b with
   | true=>exact wpIn_cond_true hb (jP hF hT hm x hd.1 hr h.yes)
   | false=>exact wpIn_cond_false hb (jP hF hT hm y hd.2 hr h.no)
  ·exact h.elim
 | .block id c,σ,Q,ρ,a,w,hd,hr,h=>by
  refine wpIn_block (wpIn_mono (jP hF hT hm c hd hr h) (fun e a' w' hq=>?_))
  cases e with
  | normal=>exact hq
  | exit j=>
   obtain ⟨σ',ρ',h',hr'⟩:=hq;dsimp only at h';show (if j=id then jT E Q .normal a' w' else jT E Q (.exit j) a' w')
   split at h'
   ·rename_i hb;rw [if_pos (Nat.eq_of_beq_eq_true hb)];exact ⟨σ',ρ',h',hr'⟩
   ·rename_i hb;rw [if_neg (Nat.ne_of_beq_eq_false hb)];exact ⟨σ',ρ',h',hr'⟩
  | ret=>exact hq
  | _=>exact hq.elim
 | .loop c,σ,Q,ρ,a,w,hd,hr,h=>by
  obtain ⟨ι,S,I,μ,x0,h0,hsub,hround⟩:=h;obtain ⟨ρ0,hr0⟩:=hsub E ρ a w hr;refine yW (fun n a w=>∃x ρ,I x/\μ x=n/\Rel E (S x) ρ a w) (μ x0) ⟨x0,ρ0,h0,rfl,hr0⟩ fun n a w hI=>?_
  obtain ⟨x,ρ1,h1,rfl,hr1⟩:=hI;refine wpIn_mono (jP hF hT hm c hd hr1 (hround x h1)) (fun e a' w' hq=>?_)
  cases e with
  | normal=>
   obtain ⟨σ',ρ',⟨x',h2,hs2,hlt⟩,hr'⟩:=hq;obtain ⟨ρ2,hr2⟩:=hs2 E ρ' a' w' hr';exact ⟨μ x',hlt,x',ρ2,h2,rfl,hr2⟩
  | exit id=>exact hq
  | ret=>exact hq
  | _=>exact hq.elim
 | .exit id,σ,Q,ρ,a,w,_,hr,h=>wpIn_exit ⟨σ,ρ,h,hr⟩
 | .ret,σ,Q,ρ,a,w,_,hr,h=>wpIn_ret ⟨σ,ρ,h,hr⟩
 | .rangeFunc _ _ _ _,_,_,_,_,_,_,_,h=>by cases h
 | .scope _,_,_,_,_,_,hd,_,_=>by cases hd
 | .label _,σ,Q,ρ,a,w,_,hr,h=>wpIn_label ⟨σ,ρ,h,hr⟩
 | .goto _,_,_,_,_,_,_,_,h=>by cases h
 | .refuse _,_,_,_,_,_,_,_,h=>by cases h
end Go.Gs
