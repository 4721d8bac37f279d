/- The pens, both texts. -/
import Derived.Test.YtcjnhffjmonbeaaGreatDoorMA
import Derived.Test.YtcjnhffjmonbeaaGreatDoorMAZ
import Derived.Test.YtcjnhffjmonbeaaGreatDoorMAY
set_option maxRecDepth 100000
set_option maxHeartbeats 8000000
set_option linter.all false
namespace Go.Gs
open Go.Proofs
def zf6(p:Pen):List SV:=[i64 p.w,i64 p.j,i64 p.c,i64 p.m,.sl uJ p.d,i64 p.ph]
def zaO(l:List Int)(i:Nat):Prop:=l=[]∨∃n∈l.take i,0 < n
theorem zcF{l:List Int}{i:Nat}{x:Int}(h:l[i]? =some x):l.take (i+1)=l.take i++[x]:=by
 rw [List.take_add_one,h];rfl
theorem vR{l:List Int}{i:Nat}{x:Int}(h:l[i]? =some x):zaO l (i+1)↔zaO l i∨0 < x:=by
 unfold zaO;rw [zcF h];constructor
 ·rintro (h | ⟨n,hn,h0⟩)
  ·exact .inl (.inl h)
  ·rcases List.mem_append.1 hn with hn | hn
   ·exact .inl (.inr ⟨n,hn,h0⟩)
   ·rw [List.mem_singleton] at hn;exact .inr (hn ▸ h0)
 ·rintro ((h | ⟨n,hn,h0⟩) | h)
  ·exact .inl h
  ·exact .inr ⟨n,List.mem_append_left _ hn,h0⟩
  ·exact .inr ⟨x,List.mem_append_right _ (List.mem_singleton.2 rfl),h⟩
theorem zlP{l:List Int}{i:Nat}(hi:l.length<=i)(ha:∀n∈l.take i,0<=n/\n<=1048576):zaL l↔zaO l i/\l.length % 2=0/\(l.length:Int)<=16:=by
 rw [List.take_of_length_le hi] at ha;unfold zaL zaO;rw [List.take_of_length_le hi];exact ⟨fun h=>h.2,fun h=>⟨ha,h⟩⟩
theorem zcG{l:List Int}{i:Nat}{x:Int}(h:l[i]? =some x)(ha:∀n∈l.take i,0<=n/\n<=1048576)(hx:0<=x/\x<=1048576):∀n∈l.take (i+1),0<=n/\n<=1048576:=by
 rw [zcF h];intro n hn
 rcases List.mem_append.1 hn with hn | hn
 ·exact ha n hn
 ·rw [List.mem_singleton] at hn;exact hn ▸ hx
theorem zfk{l:List Int}{i:Nat}{x:Int}(h:l[i]? =some x)(hx:¬(0<=x/\x<=1048576)):¬zaL l:=fun k=>hx (k.1 x (List.mem_of_getElem? h))
theorem yg(l:List Int):ze Tryz.prog 250 [.sl uJ l] [] (pr (zaL l)) []:=by
 refine zd tok mix Tryz.func250 rfl rfl rfl ?_;intro hl1;intro hl2;refine ⟨Nat×Bool,fun z=>⟨[(3,bl z.2),(11,i64 (z.1:Int)),(10,i64 (l.length:Int)),(9,.sl uJ l),(0,.sl uJ l)],[],0,39,0⟩,fun z=>z.1<=l.length/\(z.2=true↔zaO l z.1)/\∀n∈l.take z.1,0<=n/\n<=1048576,fun z=>l.length - z.1,(0,decide (l=[])),?_,?_,?_⟩
 ·refine ⟨Nat.zero_le _,?_,fun n hn=>by cases hn⟩;show decide (l=[])=true↔_;unfold zaO;rw [decide_eq_true_iff];exact ⟨.inl,fun h=>h.elim id (fun ⟨n,hn,_⟩=>by cases hn)⟩
 ·refine Sub.trans (kR (t:=3) (s':=bl (decide (l=[]))) rfl (zlt ?_)) (yU [] rfl rfl rfl ⟨rfl,rfl,rfl,rfl,rfl,trivial⟩ trivial);rw [decide_eq_true_iff,← List.length_eq_zero_iff];omega
 rintro ⟨i,b⟩ ⟨h1,h2,h3⟩
 dsimp only at h1 h2 h3;refine Br.mk (fun g=>?_) (fun g=>?_)
 ·have g:(i:Int) < l.length:=g;refine Ob.o ?_;intro x hx;refine Br.mk (fun a1=>zc (zfk hx oM)) (fun a1=>?_);refine Br.mk (fun a2=>zc (zfk hx oM)) (fun a2=>?_);have hx:l[i]? =some x:=hx
  cases b with
  | true=>
   refine Ar.o ?_;refine ⟨(i+1,true),⟨by dsimp only;omega,?_,zcG hx h3 oM⟩,zi [],by dsimp only;omega⟩;exact ⟨fun _=>(vR hx).2 (.inl (h2.1 rfl)),fun _=>rfl⟩
  | false=>
   refine Ar.o ?_;refine ⟨(i+1,decide (0 < x)),⟨by dsimp only;omega,?_,zcG hx h3 oM⟩,Sub.trans (kR (t:=3) (s':=bl (decide (0 < x))) rfl (zlt ?_)) (yU [] rfl rfl rfl ⟨rfl,rfl,rfl,rfl,rfl,trivial⟩ trivial),by dsimp only;omega⟩
   ·show decide (0 < x)=true↔zaO l (i+1);rw [decide_eq_true_iff,vR (show l[i]? =some x from hx)];exact ⟨.inr,fun h=>h.elim (fun k=>by have:=h2.2 k;cases this) id⟩
   ·rw [decide_eq_true_iff]
 ·have g:¬(i:Int) < l.length:=g;have hd:=zlP (l:=l) (i:=i) oM h3
  cases b with
  | false=>
   exact zc (fun k=>by have:=h2.2 (hd.1 k).1;cases this)
  | true=>
   intro hl3;refine Dv.pos ⟨oM,oM⟩ ?_;refine Br.mk (fun a1=>?_) (fun a1=>zc (fun k=>a1 (by have:=(hd.1 k).2.1;omega)));intro hl4;exact zu ⟨fun k=>hd.2 ⟨h2.1 rfl,oM,k⟩,fun k=>(hd.1 k).2.2⟩
theorem zoX(l:List Int):ze Tryz.prog 316 [.sl uJ l] [] (pr (zaL l)) []:=by
 refine zd tok mix Tryz.func316 rfl rfl rfl ?_;intro hl1;refine ⟨Nat×Bool,fun z=>⟨[(3,bl z.2),(4,i64 (z.1:Int)),(0,.sl uJ l)],[],0,40,0⟩,fun z=>z.1<=l.length/\(z.2=true↔zaO l z.1)/\∀n∈l.take z.1,0<=n/\n<=1048576,fun z=>l.length - z.1,(0,decide (l=[])),?_,?_,?_⟩
 ·refine ⟨Nat.zero_le _,?_,fun n hn=>by cases hn⟩;show decide (l=[])=true↔_;unfold zaO;rw [decide_eq_true_iff];exact ⟨.inl,fun h=>h.elim id (fun ⟨n,hn,_⟩=>by cases hn)⟩
 ·refine Sub.trans (kR (t:=3) (s':=bl (decide (l=[]))) rfl (zlt ?_)) (yU [] rfl rfl rfl ⟨rfl,rfl,rfl,trivial⟩ trivial);rw [decide_eq_true_iff,← List.length_eq_zero_iff];omega
 rintro ⟨i,b⟩ ⟨h1,h2,h3⟩
 dsimp only at h1 h2 h3;intro hl2;refine Br.mk (fun g=>?_) (fun g=>?_)
 ·have g:(i:Int) < l.length:=g;refine Ob.o ?_;intro x hx;refine zb.t (vq x 0 1048576) ?_;refine Br.mk (fun a1=>zc (zfk hx a1)) (fun a1=>?_);have a1:0<=x/\x<=1048576:=Decidable.not_not.1 a1;have hx:l[i]? =some x:=hx
  cases b with
  | true=>
   refine Ar.o ?_;refine ⟨(i+1,true),⟨by dsimp only;omega,?_,zcG hx h3 a1⟩,zi [],by dsimp only;omega⟩;exact ⟨fun _=>(vR hx).2 (.inl (h2.1 rfl)),fun _=>rfl⟩
  | false=>
   refine Ob.o ?_;intro y hy;have hy:l[i]? =some y:=hy;have e:x=y:=Option.some.inj ((show l[i]? =some x from hx).symm.trans hy);subst e;refine Ar.o ?_;refine ⟨(i+1,decide (0 < x)),⟨by dsimp only;omega,?_,zcG hx h3 a1⟩,Sub.trans (kR (t:=3) (s':=bl (decide (0 < x))) rfl (zlt ?_)) (yU [] rfl rfl rfl ⟨rfl,rfl,rfl,trivial⟩ trivial),by dsimp only;omega⟩
   ·show decide (0 < x)=true↔zaO l (i+1);rw [decide_eq_true_iff,vR (show l[i]? =some x from hx)];exact ⟨.inr,fun h=>h.elim (fun k=>by have:=h2.2 k;cases this) id⟩
   ·rw [decide_eq_true_iff]
 ·have g:¬(i:Int) < l.length:=g;have hd:=zlP (l:=l) (i:=i) oM h3
  cases b with
  | false=>
   exact zc (fun k=>by have:=h2.2 (hd.1 k).1;cases this)
  | true=>
   intro hl3;refine Br.mk (fun a1=>?_) (fun a1=>zc (fun k=>a1 (hd.1 k).2.2));intro hl4;refine Dv.pos ⟨oM,oM⟩ ?_;exact zu ⟨fun k=>hd.2 ⟨h2.1 rfl,oM,a1⟩,fun k=>by have:=(hd.1 k).2.1;omega⟩
theorem zdJ(p:Pen):yf p↔((1<=p.w/\p.w<=16384)/\(p.j=1∨p.j=2∨p.j=3)/\(p.c=3∨p.c=4∨p.c=5)/\(256<=p.m/\p.m<=65536)/\(0<=p.ph/\p.ph<=1048576))/\zaL p.d:=by
 unfold yf jH;exact ⟨fun h=>⟨⟨h.1,h.2.1,h.2.2.1,h.2.2.2.1,h.2.2.2.2.2⟩,h.2.2.2.2.1⟩,fun h=>⟨h.1.1,h.1.2.1,h.1.2.2.1,h.1.2.2.2.1,h.2,h.1.2.2.2.2⟩⟩
theorem zqR(p:Pen):ze Tryz.prog 277 [.agg (zf6 p)] [] (pr (yf p)) []:=by
 have hp:=zdJ p;refine zd tok mix Tryz.func277 rfl rfl rfl ?_;refine zb.t (zqP p.w) ?_;refine Br.mk (fun a1=>zc (fun k=>a1 (hp.1 k).1.1)) (fun a1=>?_);refine zb.t (vq p.j 1 3) ?_;refine Br.mk (fun a2=>zc (fun k=>by have:=(hp.1 k).1;omega)) (fun a2=>?_);refine zb.t (vq p.c 3 5) ?_;refine Br.mk (fun a3=>zc (fun k=>by have:=(hp.1 k).1;omega)) (fun a3=>?_);refine zb.t (vq p.m 256 65536) ?_;refine Br.mk (fun a4=>?_) (fun a4=>zc (fun k=>by have:=(hp.1 k).1;omega));refine zb.t (zoX p.d) ?_;refine Br.mk (fun a5=>?_) (fun a5=>zc (fun k=>a5 (hp.1 k).2))
 refine zb.t (vq p.ph 0 1048576) ?_;exact zu ⟨fun k=>hp.2 ⟨by unfold jH at a1;omega,a5⟩,fun k=>by have:=(hp.1 k).1;omega⟩
theorem zqS(p:Pen):ze Tryz.prog 205 [.agg (zf6 p)] [] (pr (yf p)) []:=by
 have hp:=zdJ p;refine zd tok mix Tryz.func205 rfl rfl rfl ?_;refine Br.mk (fun j1=>?_) (fun j1=>?_)
 ·
  refine Br.mk (fun c1=>?_) (fun c1=>?_)
  ·
   refine zb.t (vQ p.w) ?_;refine Br.mk (fun w1=>?_) (fun w1=>zc (fun k=>w1 (hp.1 k).1.1));refine Br.mk (fun m1=>?_) (fun m1=>zc (fun k=>by have:=(hp.1 k).1;omega));refine Br.mk (fun m2=>?_) (fun m2=>zc (fun k=>by have:=(hp.1 k).1;omega));refine zb.t (yg p.d) ?_;refine Br.mk (fun d1=>?_) (fun d1=>zc (fun k=>d1 (hp.1 k).2));refine Br.mk (fun p1=>?_) (fun p1=>zc (fun k=>by have:=(hp.1 k).1;omega));exact zu ⟨fun k=>hp.2 ⟨by unfold jH at w1;omega,d1⟩,fun k=>by have:=(hp.1 k).1;omega⟩
  refine Br.mk (fun c2=>?_) (fun c2=>?_)
  ·
   refine zb.t (vQ p.w) ?_;refine Br.mk (fun w1=>?_) (fun w1=>zc (fun k=>w1 (hp.1 k).1.1));refine Br.mk (fun m1=>?_) (fun m1=>zc (fun k=>by have:=(hp.1 k).1;omega));refine Br.mk (fun m2=>?_) (fun m2=>zc (fun k=>by have:=(hp.1 k).1;omega));refine zb.t (yg p.d) ?_;refine Br.mk (fun d1=>?_) (fun d1=>zc (fun k=>d1 (hp.1 k).2));refine Br.mk (fun p1=>?_) (fun p1=>zc (fun k=>by have:=(hp.1 k).1;omega));exact zu ⟨fun k=>hp.2 ⟨by unfold jH at w1;omega,d1⟩,fun k=>by have:=(hp.1 k).1;omega⟩
  refine zb.t (vQ p.w) ?_;refine Br.mk (fun w1=>?_) (fun w1=>zc (fun k=>w1 (hp.1 k).1.1));refine Br.mk (fun c3=>?_) (fun c3=>zc (fun k=>by have:=(hp.1 k).1;omega));refine Br.mk (fun m1=>?_) (fun m1=>zc (fun k=>by have:=(hp.1 k).1;omega));refine Br.mk (fun m2=>?_) (fun m2=>zc (fun k=>by have:=(hp.1 k).1;omega));refine zb.t (yg p.d) ?_;refine Br.mk (fun d1=>?_) (fun d1=>zc (fun k=>d1 (hp.1 k).2));refine Br.mk (fun p1=>?_) (fun p1=>zc (fun k=>by have:=(hp.1 k).1;omega))
  exact zu ⟨fun k=>hp.2 ⟨by unfold jH at w1;omega,d1⟩,fun k=>by have:=(hp.1 k).1;omega⟩
 refine Br.mk (fun j2=>?_) (fun j2=>?_)
 ·
  refine Br.mk (fun c1=>?_) (fun c1=>?_)
  ·
   refine zb.t (vQ p.w) ?_;refine Br.mk (fun w1=>?_) (fun w1=>zc (fun k=>w1 (hp.1 k).1.1));refine Br.mk (fun m1=>?_) (fun m1=>zc (fun k=>by have:=(hp.1 k).1;omega));refine Br.mk (fun m2=>?_) (fun m2=>zc (fun k=>by have:=(hp.1 k).1;omega));refine zb.t (yg p.d) ?_;refine Br.mk (fun d1=>?_) (fun d1=>zc (fun k=>d1 (hp.1 k).2));refine Br.mk (fun p1=>?_) (fun p1=>zc (fun k=>by have:=(hp.1 k).1;omega));exact zu ⟨fun k=>hp.2 ⟨by unfold jH at w1;omega,d1⟩,fun k=>by have:=(hp.1 k).1;omega⟩
  refine Br.mk (fun c2=>?_) (fun c2=>?_)
  ·
   refine zb.t (vQ p.w) ?_;refine Br.mk (fun w1=>?_) (fun w1=>zc (fun k=>w1 (hp.1 k).1.1));refine Br.mk (fun m1=>?_) (fun m1=>zc (fun k=>by have:=(hp.1 k).1;omega));refine Br.mk (fun m2=>?_) (fun m2=>zc (fun k=>by have:=(hp.1 k).1;omega));refine zb.t (yg p.d) ?_;refine Br.mk (fun d1=>?_) (fun d1=>zc (fun k=>d1 (hp.1 k).2));refine Br.mk (fun p1=>?_) (fun p1=>zc (fun k=>by have:=(hp.1 k).1;omega));exact zu ⟨fun k=>hp.2 ⟨by unfold jH at w1;omega,d1⟩,fun k=>by have:=(hp.1 k).1;omega⟩
  refine zb.t (vQ p.w) ?_;refine Br.mk (fun w1=>?_) (fun w1=>zc (fun k=>w1 (hp.1 k).1.1));refine Br.mk (fun c3=>?_) (fun c3=>zc (fun k=>by have:=(hp.1 k).1;omega));refine Br.mk (fun m1=>?_) (fun m1=>zc (fun k=>by have:=(hp.1 k).1;omega));refine Br.mk (fun m2=>?_) (fun m2=>zc (fun k=>by have:=(hp.1 k).1;omega));refine zb.t (yg p.d) ?_;refine Br.mk (fun d1=>?_) (fun d1=>zc (fun k=>d1 (hp.1 k).2));refine Br.mk (fun p1=>?_) (fun p1=>zc (fun k=>by have:=(hp.1 k).1;omega))
  exact zu ⟨fun k=>hp.2 ⟨by unfold jH at w1;omega,d1⟩,fun k=>by have:=(hp.1 k).1;omega⟩
 refine Br.mk (fun c1=>?_) (fun c1=>?_)
 ·
  refine zb.t (vQ p.w) ?_;refine Br.mk (fun w1=>?_) (fun w1=>zc (fun k=>w1 (hp.1 k).1.1));refine Br.mk (fun j3=>?_) (fun j3=>zc (fun k=>by have:=(hp.1 k).1;omega));refine Br.mk (fun m1=>?_) (fun m1=>zc (fun k=>by have:=(hp.1 k).1;omega));refine Br.mk (fun m2=>?_) (fun m2=>zc (fun k=>by have:=(hp.1 k).1;omega));refine zb.t (yg p.d) ?_;refine Br.mk (fun d1=>?_) (fun d1=>zc (fun k=>d1 (hp.1 k).2));refine Br.mk (fun p1=>?_) (fun p1=>zc (fun k=>by have:=(hp.1 k).1;omega))
  exact zu ⟨fun k=>hp.2 ⟨by unfold jH at w1;omega,d1⟩,fun k=>by have:=(hp.1 k).1;omega⟩
 refine Br.mk (fun c2=>?_) (fun c2=>?_)
 ·
  refine zb.t (vQ p.w) ?_;refine Br.mk (fun w1=>?_) (fun w1=>zc (fun k=>w1 (hp.1 k).1.1));refine Br.mk (fun j3=>?_) (fun j3=>zc (fun k=>by have:=(hp.1 k).1;omega));refine Br.mk (fun m1=>?_) (fun m1=>zc (fun k=>by have:=(hp.1 k).1;omega));refine Br.mk (fun m2=>?_) (fun m2=>zc (fun k=>by have:=(hp.1 k).1;omega));refine zb.t (yg p.d) ?_;refine Br.mk (fun d1=>?_) (fun d1=>zc (fun k=>d1 (hp.1 k).2));refine Br.mk (fun p1=>?_) (fun p1=>zc (fun k=>by have:=(hp.1 k).1;omega))
  exact zu ⟨fun k=>hp.2 ⟨by unfold jH at w1;omega,d1⟩,fun k=>by have:=(hp.1 k).1;omega⟩
 refine zb.t (vQ p.w) ?_;refine Br.mk (fun w1=>?_) (fun w1=>zc (fun k=>w1 (hp.1 k).1.1));refine Br.mk (fun j3=>?_) (fun j3=>zc (fun k=>by have:=(hp.1 k).1;omega));refine Br.mk (fun c3=>?_) (fun c3=>zc (fun k=>by have:=(hp.1 k).1;omega));refine Br.mk (fun m1=>?_) (fun m1=>zc (fun k=>by have:=(hp.1 k).1;omega));refine Br.mk (fun m2=>?_) (fun m2=>zc (fun k=>by have:=(hp.1 k).1;omega));refine zb.t (yg p.d) ?_;refine Br.mk (fun d1=>?_) (fun d1=>zc (fun k=>d1 (hp.1 k).2))
 refine Br.mk (fun p1=>?_) (fun p1=>zc (fun k=>by have:=(hp.1 k).1;omega));exact zu ⟨fun k=>hp.2 ⟨by unfold jH at w1;omega,d1⟩,fun k=>by have:=(hp.1 k).1;omega⟩
structure Pl where
 pts:List Pt
 cl:Bool
def plE(q:Pl):List SV:=[.sl ptE q.pts,pr (q.cl=true)]
def qu(r:List Pt):List SV:=[.sl ptE r]
def zhW:List Pt->List Pt
 | []=>[]
 | p::r=>match r with
  | []=>[p]
  | q::_=>if p=q then zhW r else p::zhW r
def je(l:List Pt):List Pt:=if 1 < l.length/\l.getLast?=l.head? then l.dropLast else l
def vS(p:Pl):Pl:=⟨if p.cl then je (zhW p.pts) else zhW p.pts,p.cl⟩
def yh:List Pt->Prop
 | []=>True
 | p::r=>(∀q,r.head?=some q->p≠q)/\yh r
def nth(l:List Pt)(i:Nat):Pt:=l.getD i zp
def zqT(p:Pl)(pen:Pen):List (List Pt):=
 ((List.range (p.pts.length - 1)).flatMap fun i=>zfj (zrY (nth p.pts i) (nth p.pts (i+1)) pen.w))++
 (if p.cl/\1 < p.pts.length then zfj (zrY (nth p.pts (p.pts.length - 1)) (nth p.pts 0) pen.w) else [])
def zsP(p:Pl)(pen:Pen):List (List Pt):=
 if p.pts.length<=1 then [] else
 (List.range p.pts.length).flatMap fun i=>if ¬p.cl=true/\(i=0∨i=p.pts.length - 1) then []
  else joinR (nth p.pts ((i+p.pts.length - 1) % p.pts.length)) (nth p.pts i) (nth p.pts ((i+1) % p.pts.length)) pen
def endR(a b:Pt)(pen:Pen):List Pt:=if pen.c=5 then capR a b pen.w else if pen.c=3 then zoN b pen.w else []
def dotR(p:Pt)(pen:Pen):List Pt:=if pen.c=5 then sdotR p pen.w else if pen.c=3 then zoN p pen.w else []
def capsR(p:Pl)(pen:Pen):List (List Pt):=
 if p.pts.length=1 then zfj (dotR (nth p.pts 0) pen)
 else if 1 < p.pts.length/\¬p.cl=true then zfj (endR (nth p.pts 1) (nth p.pts 0) pen)++zfj (endR (nth p.pts (p.pts.length - 2)) (nth p.pts (p.pts.length - 1)) pen) else []
def zkL(p:Pl)(pen:Pen):List (List Pt):=zqT p pen++zsP p pen++capsR p pen
def u7(l:List (List Pt)):Nat:=(l.map List.length).sum
def zhX(p:Pl)(pen:Pen):List (List Pt)×Int:=
 if ¬yf pen then ([],13) else if ¬∀q∈p.pts,zP q then ([],6) else if 4096 < p.pts.length then ([],5)
 else if ¬∀r∈zkL (vS p) pen,∀q∈r,zP q then ([],6) else if 4096 < u7 (zkL (vS p) pen) then ([],5) else (zkL (vS p) pen,0)
def uA:List Pl->Pen->List (List Pt)×Int
 | [],_=>([],0)
 | p::r,pen=>if (zhX p pen).2≠0 then ([],(zhX p pen).2)
  else if (uA r pen).2≠0 then ([],(uA r pen).2) else ((zhX p pen).1++(uA r pen).1,0)
def zfl(l:List Pl)(pen:Pen):List (List Pt)×Int:=
 if ¬yf pen then ([],13) else if (uA l pen).2≠0 then ([],(uA l pen).2) else if 4096 < u7 (uA l pen).1 then ([],5) else ((uA l pen).1,0)
def uW(a b c:Pt):Int:=(a.x - 2*b.x+c.x)*(a.x - 2*b.x+c.x)+(a.y - 2*b.y+c.y)*(a.y - 2*b.y+c.y)
def enough(need tol:Int)(n:Nat):Prop:=need<=16*n*n*n*n*tol*tol
instance (need tol:Int) (n:Nat):Decidable (enough need tol n):=inferInstanceAs (Decidable (_<=_))
def yA(need tol:Int):Nat->Nat->Int×Int
 | 0,_=>(0,11)
 | k+1,n=>if enough need tol n then (n,0) else yA need tol k (n+1)
def qw(need tol:Int)(l:List Pt):Int×Int:=if ¬(1<=tol/\tol<=256) then (0,2) else if ¬∀p∈l,zP p then (0,6) else yA need tol 64 1
def jI(a b c:Pt)(tol:Int):Int×Int:=qw (uW a b c) tol [a,b,c]
def jJ(a b c d:Pt)(tol:Int):Int×Int:=qw (9*max (uW a b c) (uW b c d)) tol [a,b,c,d]
def zmV(l:List Pt)(i n:Int):Prop:=(∀p∈l,zP p)/\1<=n/\n<=64/\0<=i/\i<=n
instance (l:List Pt) (i n:Int):Decidable (zmV l i n):=inferInstanceAs (Decidable (_/\_))
def q1(i n a b c:Int):Int:=zcD ((n - i)*(n - i)*a+2*i*(n - i)*b+i*i*c) (n*n)
def uB(a b c:Pt)(i n:Int):Pt:=if ¬zmV [a,b,c] i n then zp else ⟨q1 i n a.x b.x c.x,q1 i n a.y b.y c.y⟩
def c1(i n a b c d:Int):Int:=zcD ((n - i)*(n - i)*(n - i)*a+3*i*(n - i)*(n - i)*b+3*i*i*(n - i)*c+i*i*i*d) (n*n*n)
def uC(a b c d:Pt)(i n:Int):Pt:=if ¬zmV [a,b,c,d] i n then zp else ⟨c1 i n a.x b.x c.x d.x,c1 i n a.y b.y c.y d.y⟩
def zcH(f:Int->Pt)(n:Nat):List Pt:=(List.range n).map fun (i:Nat)=>f ((i:Int)+1)
def zaP(a b c:Pt)(tol:Int):List Pt×Int:=if (jI a b c tol).2≠0 then ([],(jI a b c tol).2) else (zcH (fun i=>uB a b c i (jI a b c tol).1) (jI a b c tol).1.toNat,0)
def zaQ(a b c d:Pt)(tol:Int):List Pt×Int:=if (jJ a b c d tol).2≠0 then ([],(jJ a b c d tol).2) else (zcH (fun i=>uC a b c d i (jJ a b c d tol).1) (jJ a b c d tol).1.toNat,0)
def zcI(rs:List (List Pt)):Prop:=(u7 rs:Int)<=4096/\∀r∈rs,∀p∈r,zP p
instance (rs:List (List Pt)):Decidable (zcI rs):=inferInstanceAs (Decidable (_/\_))
def zfm(xs:List Pt):Int:=match xs.findIdx? (fun p=>decide (¬zP p)) with
 | some i=>i
 | none=> -1
theorem zoY{xs:List Pt}{i:Nat}{p:Pt}(h:∀(j:Nat) q,j < i->xs[j]? =some q->zP q)(hi:xs[i]? =some p)(hp:¬zP p):zfm xs=i:=by
 have:xs.findIdx? (fun p=>decide (¬zP p))=some i:=by
  rw [List.findIdx?_eq_some_iff_getElem];obtain ⟨hl,he⟩:=List.getElem?_eq_some_iff.1 hi;refine ⟨hl,by simp [he,hp],fun j hj=>?_⟩;have:=h j xs[j] hj (List.getElem?_eq_getElem _);simp [this]
 simp only [zfm,this]
theorem zfn{xs:List Pt}(h:∀p∈xs,zP p):zfm xs= -1:=by
 have:xs.findIdx? (fun p=>decide (¬zP p))=none:=by
  rw [List.findIdx?_eq_none_iff];intro p hp;simp [h p hp]
 simp only [zfm,this]
theorem zhY{xs:List Pt}:0<=zfm xs↔¬∀p∈xs,zP p:=by
 constructor
 ·intro h hall;rw [zfn hall] at h;omega
 ·intro h;unfold zfm
  split
  ·omega
  ·rename_i hn;rw [List.findIdx?_eq_none_iff] at hn;exact absurd (fun p hp=>by simpa using hn p hp) h
theorem zoZ(p:Pt):ze Tryz.prog 159 [.agg (ptE p)] [] (pr (¬zP p)) []:=by
 refine zd tok mix Tryz.func159 rfl rfl rfl ?_;refine zb.t (jG p) ?_;exact zu Iff.rfl
theorem zqU(xs:List Pt):ze Tryz.prog 200 [.sl ptE xs,.fn 159 []] [] (i64 (zfm xs)) []:=by
 refine zd tok mix Tryz.func200 rfl rfl rfl ?_;intro hl0;refine ⟨Int,fun i=>⟨[(8,i64 i),(7,i64 xs.length),(0,.sl ptE xs),(1,.fn 159 [])],[],0,19,0⟩,fun i=>0<=i/\i<=xs.length/\∀(j:Nat) q,(j:Int) < i->xs[j]? =some q->zP q,fun i=>((xs.length:Int) - i).toNat,0,?_,?_,?_⟩
 ·exact ⟨oM,oM,fun j q hj=>by omega⟩
 ·exact zi []
 rintro i ⟨h1,h2,h3⟩
 refine Br.mk (fun h4=>?_) (fun h4=>?_)
 ·refine Ob.o ?_;intro x hx;refine zb.t (zoZ x) ?_;refine Br.mk (fun h5=>?_) (fun h5=>?_)
  ·refine zm ?_;rw [zoY (i:=i.toNat) (fun j q hj=>h3 j q oM) hx h5];omega
  ·refine Ar.o ?_;refine ⟨i+1,⟨oM,oM,fun j q hj hq=>?_⟩,zi [],by dsimp only;omega⟩
   by_cases e:j=i.toNat
   ·subst e;rw [hx] at hq;cases hq;exact Decidable.not_not.1 h5
   ·exact h3 j q oM hq
 ·refine zm (zfn fun p hp=>?_).symm;obtain ⟨j,hj,he⟩:=List.getElem_of_mem hp;exact h3 j p oM (by rw [← he];exact List.getElem?_eq_getElem hj)
theorem zkM(xs:List Pt):ze Tryz.prog 158 [.sl ptE xs,.fn 159 []] [] (pr (¬∀p∈xs,zP p)) []:=by
 refine zd tok mix Tryz.func158 rfl rfl rfl ?_;refine zb.t (zqU xs) ?_;exact zu zhY
theorem zbu{rs:List (List Pt)}{i:Nat}{r:List Pt}(h:rs[i]? =some r):u7 (rs.take (i+1))=u7 (rs.take i)+r.length:=by
 unfold u7;rw [List.take_add_one,h];simp
theorem zeb(rs:List (List Pt))(i:Nat):u7 (rs.take i)<=u7 rs:=by
 unfold u7
 conv=>rhs;rw [← List.take_append_drop i rs]
 rw [List.map_append,List.sum_append];omega
theorem zkN{rs:List (List Pt)}{i:Nat}{r:List Pt}(h:rs[i]? =some r)(ha:∀q∈rs.take i,∀p∈q,zP p)(hr:∀p∈r,zP p):∀q∈rs.take (i+1),∀p∈q,zP p:=by
 rw [List.take_add_one,h];intro q hq
 rcases List.mem_append.1 hq with hq | hq
 ·exact ha q hq
 ·rw [Option.toList_some,List.mem_singleton] at hq;exact hq ▸ hr
theorem zo0(rs:List (List Pt))(hs:∀r∈rs,(r.length:Int)<=9223372036854771711):ze Tryz.prog 108 [.sl qu rs] [] (pr (zcI rs)) []:=by
 refine zd tok mix Tryz.func108 rfl rfl rfl ?_;intro hl1;refine ⟨Nat,fun i=>⟨[(3,i64 (u7 (rs.take i):Int)),(8,i64 (i:Int)),(7,i64 (rs.length:Int)),(6,.sl qu rs)],[],0,23,0⟩,fun i=>i<=rs.length/\(u7 (rs.take i):Int)<=4096/\∀q∈rs.take i,∀p∈q,zP p,fun i=>rs.length - i,0,?_,?_,?_⟩
 ·exact ⟨Nat.zero_le _,by show ((0:Nat):Int)<=4096;decide,fun q hq=>by cases hq⟩
 ·exact zi []
 rintro i ⟨h1,h2,h3⟩
 refine Br.mk (fun g=>?_) (fun g=>?_)
 ·refine Ob.o ?_;intro r hr;have hr:rs[i]? =some r:=hr;have hrl:=hs r (List.mem_of_getElem? hr);have hc:=zbu hr;have hcl:=zeb rs (i+1);intro hl2;refine Ar.o ?_;refine Br.mk (fun a1=>zc (fun k=>by have:=k.1;omega)) (fun a1=>?_);refine zb.t (zkM r) ?_;refine Br.mk (fun a2=>zc (fun k=>a2 (k.2 r (List.mem_of_getElem? hr)))) (fun a2=>?_);refine Ar.o ?_;have e:(u7 (rs.take i):Int)+(r.length:Int)=((u7 (rs.take (i+1)):Nat):Int):=oM;refine ⟨i+1,⟨oM,oM,zkN hr h3 (Decidable.not_not.1 a2)⟩,?_,by dsimp only;omega⟩;dsimp only;rw [← e]
  exact zi []
 ·rw [List.take_of_length_le oM] at h2 h3;exact zH ⟨h2,h3⟩
theorem zuf(r:List Pt)(hr:r.length<=4096):ze Tryz.prog 132 [.sl ptE r] [] (.sl ptE r) []:=by
 refine zd tok mix Tryz.func132 rfl rfl rfl ?_;refine ⟨Pt,ptE,[],rfl,Ob.o2 ?_⟩;refine ⟨Nat,fun i=>⟨[(4,i64 (i:Int)),(3,.own 0),(0,.sl ptE r)],[(0,.arr 46 ptE 2 (r.take i))],1,20,0⟩,fun i=>i<=r.length,fun i=>r.length - i,0,?_,?_,?_⟩
 ·exact Nat.zero_le _
 ·exact zi [(0,some 0)]
 rintro i h1
 intro hl1;refine Br.mk (fun g=>?_) (fun g=>?_)
 ·have g:(i:Int) < r.length:=g;refine Ob.o ?_;intro x hx;have hx:r[i]? =some x:=hx;refine ⟨Pt,ptE,[x],rfl,Ob.o0 ?_⟩;have hlt:(r.take i).length=i:=by rw [List.length_take];omega
  refine ⟨[x],rfl,Ob.mk ⟨(by show _*(16:Int)<=_;simp only [hlt,List.length_cons,List.length_nil];omega),(by simp only [hlt,List.length_cons,List.length_nil];omega),dC,fun _ _=>rfl⟩ ?_⟩;refine Ar.o ?_;exact ⟨i+1,oM,k9 [(0,some 2)] ⟨congrArg (fun q=>some (Mem.arr 46 ptE 2 q)) (by rw [List.take_add_one,hx];rfl),trivial⟩,by dsimp only;omega⟩
 ·exact yb (by rw [List.take_of_length_le (by have g:¬(i:Int) < r.length:=g;omega)])
theorem zqV(q:List Pt)(hq:q.length<=4096):ze Tryz.prog 179 [.sl ptE q] [] (.own 0) [(0,.arr 46 ptE 2 q)]:=by
 refine kU tok mix Tryz.func179 rfl rfl rfl ?_
 by_cases h0:q=[]
 ·refine zmp.any (Br.mk ?_ ?_)
  ·exact ⟨none,.nil rfl,h0⟩
  ·refine ⟨Pt,ptE,[],rfl,Ob.o2 ?_⟩;refine ⟨q,rfl,Ob.o12 ?_⟩;exact ⟨some 1,.own _ rfl,rfl,fun _ _=>rfl⟩
 ·refine zmp.some (fun h=>h0 (List.eq_nil_of_length_eq_zero h)) ?_;refine ⟨Pt,ptE,[],rfl,Ob.o2 ?_⟩;refine ⟨q,rfl,Ob.o12 ?_⟩;exact ⟨some 1,.own _ rfl,rfl,fun _ _=>rfl⟩
theorem zsQ(a b:List (List Pt)):ze Tryz.prog 14 [.sl qu a,.sl qu b] [] (pr (a=b)) []:=by
 refine zd tok mix Tryz.func14 rfl rfl rfl ?_;intro hl1 hl2;refine Br.mk (fun h1=>zc fun e=>h1 (by rw [e])) (fun h1=>?_);have h1:(a.length:Int)=b.length:=Decidable.not_not.1 h1;refine ⟨Nat,fun i=>⟨[(5,i64 (i:Int)),(0,.sl qu a),(1,.sl qu b)],[],0,53,0⟩,fun i=>i<=a.length/\∀j,j < i->a[j]? =b[j]?,fun i=>a.length - i,0,?_,?_,?_⟩
 ·exact ⟨Nat.zero_le _,fun j hj=>by omega⟩
 ·exact zi []
 rintro i ⟨h2,h3⟩
 intro hl3;refine Br.mk (fun g=>?_) (fun g=>?_)
 ·have g:(i:Int) < a.length:=g;refine Dr.k ?_;refine Ob.o ?_;intro x hx;have hx:a[i]? =some x:=hx;intro hl4;refine Ob.o ?_;intro y hy;have hy:b[i]? =some y:=hy;intro hl5;refine Br.mk (fun h4=>zc fun e=>h4 ?_) (fun h4=>?_)
  ·rw [e,hy] at hx;rw [Option.some.inj hx]
  have h4:(x.length:Int)=y.length:=Decidable.not_not.1 h4;refine ⟨Nat,fun k=>⟨[(6,i64 (k:Int)),(5,i64 (i:Int)),(0,.sl qu a),(1,.sl qu b)],[],0,53,0⟩,fun k=>k<=x.length/\∀j,j < k->x[j]? =y[j]?,fun k=>x.length - k,0,?_,?_,?_⟩
  ·exact ⟨Nat.zero_le _,fun j hj=>by omega⟩
  ·exact zi []
  rintro k ⟨k1,k2⟩
  refine Ob.o ?_;intro x' hx';have e:x'=x:=Option.some.inj ((show a[i]? =some x' from hx').symm.trans hx);rw [e];intro hl6;refine Br.mk (fun g2=>?_) (fun g2=>?_)
  ·have g2:(k:Int) < x.length:=g2;refine Dr.k ?_;refine Ob.o ?_;intro x' hx';have e:x'=x:=Option.some.inj ((show a[i]? =some x' from hx').symm.trans hx);rw [e];refine Ob.o ?_;intro p hp;have hp:x[k]? =some p:=hp;refine Ob.o ?_;intro y' hy';have e:y'=y:=Option.some.inj ((show b[i]? =some y' from hy').symm.trans hy);rw [e];refine Ob.o ?_;intro q hq;have hq:y[k]? =some q:=hq;refine Br.mk (fun h5=>zc fun e=>h5 ?_) (fun h5=>?_)
   ·rw [e,hy] at hx;rw [← Option.some.inj hx,hq] at hp;exact jd.2 (Option.some.inj hp).symm
   ·have h5:p=q:=jd.1 (Decidable.not_not.1 h5);refine Ar.o ?_;refine ⟨k+1,⟨oM,fun j hj=>?_⟩,zi [],by dsimp only;omega⟩
    by_cases c:j=k
    ·rw [c,hp,hq,h5]
    ·exact k2 j oM
  ·have g2:¬(k:Int) < x.length:=g2
   have exy:x=y:=List.ext_getElem? fun j=>by
    by_cases hj:j < k
    ·exact k2 j hj
    ·rw [List.getElem?_eq_none oM,List.getElem?_eq_none oM]
   refine Ar.o ?_;refine ⟨i+1,⟨oM,fun j hj=>?_⟩,zi [],by dsimp only;omega⟩
   by_cases c:j=i
   ·rw [c,hx,hy,exy]
   ·exact h3 j oM
 ·have g:¬(i:Int) < a.length:=g;refine zH (List.ext_getElem? fun j=>?_)
  by_cases hj:j < i
  ·exact h3 j hj
  ·rw [List.getElem?_eq_none oM,List.getElem?_eq_none oM]
end Go.Gs
