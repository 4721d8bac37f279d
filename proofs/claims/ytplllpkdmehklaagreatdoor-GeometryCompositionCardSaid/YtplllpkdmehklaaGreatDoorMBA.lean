/- The pens, both texts. -/
import Derived.Test.YtplllpkdmehklaaGreatDoorMA
import Derived.Test.YtplllpkdmehklaaGreatDoorMAZ
import Derived.Test.YtplllpkdmehklaaGreatDoorMAY
set_option maxRecDepth 100000
set_option maxHeartbeats 8000000
set_option linter.all false
namespace Go.Gs
open Go.Proofs
def ue(p:Pen):List SV:=[i64 p.w,i64 p.j,i64 p.c,i64 p.m,.sl uR p.d,i64 p.ph]
def zdb(l:List Int)(i:Nat):Prop:=l=[]∨∃n∈l.take i,0 < n
theorem zfB{l:List Int}{i:Nat}{x:Int}(h:l[i]? =some x):l.take (i+1)=l.take i++[x]:=by
 rw [List.take_add_one,h];rfl
theorem zcc{l:List Int}{i:Nat}{x:Int}(h:l[i]? =some x):zdb l (i+1)↔zdb l i∨0 < x:=by
 unfold zdb;rw [zfB h];constructor
 ·rintro (h | ⟨n,hn,h0⟩)
  ·exact .inl (.inl h)
  ·rcases List.mem_append.1 hn with hn | hn
   ·exact .inl (.inr ⟨n,hn,h0⟩)
   ·rw [List.mem_singleton] at hn;exact .inr (hn ▸ h0)
 ·rintro ((h | ⟨n,hn,h0⟩) | h)
  ·exact .inl h
  ·exact .inr ⟨n,List.mem_append_left _ hn,h0⟩
  ·exact .inr ⟨x,List.mem_append_right _ (List.mem_singleton.2 rfl),h⟩
theorem zrU{l:List Int}{i:Nat}(hi:l.length<=i)(ha:∀n∈l.take i,0<=n/\n<=1048576):v6 l↔zdb l i/\l.length % 2=0/\(l.length:Int)<=16:=by
 rw [List.take_of_length_le hi] at ha;unfold v6 zdb;rw [List.take_of_length_le hi];exact ⟨fun h=>h.2,fun h=>⟨ha,h⟩⟩
theorem zfC{l:List Int}{i:Nat}{x:Int}(h:l[i]? =some x)(ha:∀n∈l.take i,0<=n/\n<=1048576)(hx:0<=x/\x<=1048576):∀n∈l.take (i+1),0<=n/\n<=1048576:=by
 rw [zfB h];intro n hn
 rcases List.mem_append.1 hn with hn | hn
 ·exact ha n hn
 ·rw [List.mem_singleton] at hn;exact hn ▸ hx
theorem zi4{l:List Int}{i:Nat}{x:Int}(h:l[i]? =some x)(hx:¬(0<=x/\x<=1048576)):¬v6 l:=fun k=>hx (k.1 x (List.mem_of_getElem? h))
theorem u0(l:List Int):zd Tryz.prog 250 [.sl uR l] [] (pr (v6 l)) []:=by
 refine zc tok mix Tryz.func250 rfl rfl rfl ?_;intro hl1;intro hl2;refine ⟨Nat×Bool,fun z=>⟨[(3,bl z.2),(11,i64 (z.1:Int)),(10,i64 (l.length:Int)),(9,.sl uR l),(0,.sl uR l)],[],0,39,0⟩,fun z=>z.1<=l.length/\(z.2=true↔zdb l z.1)/\∀n∈l.take z.1,0<=n/\n<=1048576,fun z=>l.length - z.1,(0,decide (l=[])),?_,?_,?_⟩
 ·refine ⟨Nat.zero_le _,?_,fun n hn=>by cases hn⟩;show decide (l=[])=true↔_;unfold zdb;rw [decide_eq_true_iff];exact ⟨.inl,fun h=>h.elim id (fun ⟨n,hn,_⟩=>by cases hn)⟩
 ·refine Sub.trans (qW (t:=3) (s':=bl (decide (l=[]))) rfl (zrw ?_)) (qw [] rfl rfl rfl ⟨rfl,rfl,rfl,rfl,rfl,trivial⟩ trivial);rw [decide_eq_true_iff,← List.length_eq_zero_iff];omega
 rintro ⟨i,b⟩ ⟨h1,h2,h3⟩
 dsimp only at h1 h2 h3;refine Br.mk (fun g=>?_) (fun g=>?_)
 ·have g:(i:Int) < l.length:=g;refine Ob.o ?_;intro x hx;refine Br.mk (fun a1=>ze (zi4 hx oM)) (fun a1=>?_);refine Br.mk (fun a2=>ze (zi4 hx oM)) (fun a2=>?_);have hx:l[i]? =some x:=hx
  cases b with
  | true=>
   refine Ar.o ?_;refine ⟨(i+1,true),⟨by dsimp only;omega,?_,zfC hx h3 oM⟩,zf [],by dsimp only;omega⟩;exact ⟨fun _=>(zcc hx).2 (.inl (h2.1 rfl)),fun _=>rfl⟩
  | false=>
   refine Ar.o ?_;refine ⟨(i+1,decide (0 < x)),⟨by dsimp only;omega,?_,zfC hx h3 oM⟩,Sub.trans (qW (t:=3) (s':=bl (decide (0 < x))) rfl (zrw ?_)) (qw [] rfl rfl rfl ⟨rfl,rfl,rfl,rfl,rfl,trivial⟩ trivial),by dsimp only;omega⟩
   ·show decide (0 < x)=true↔zdb l (i+1);rw [decide_eq_true_iff,zcc (show l[i]? =some x from hx)];exact ⟨.inr,fun h=>h.elim (fun k=>by have:=h2.2 k;cases this) id⟩
   ·rw [decide_eq_true_iff]
 ·have g:¬(i:Int) < l.length:=g;have hd:=zrU (l:=l) (i:=i) oM h3
  cases b with
  | false=>
   exact ze (fun k=>by have:=h2.2 (hd.1 k).1;cases this)
  | true=>
   intro hl3;refine Dv.pos ⟨oM,oM⟩ ?_;refine Br.mk (fun a1=>?_) (fun a1=>ze (fun k=>a1 (by have:=(hd.1 k).2.1;omega)));intro hl4;exact zF ⟨fun k=>hd.2 ⟨h2.1 rfl,oM,k⟩,fun k=>(hd.1 k).2.2⟩
theorem zwh(l:List Int):zd Tryz.prog 237 [.sl uR l] [] (pr (v6 l)) []:=by
 refine zc tok mix Tryz.func237 rfl rfl rfl ?_;intro hl1;refine ⟨Nat×Bool,fun z=>⟨[(3,bl z.2),(4,i64 (z.1:Int)),(0,.sl uR l)],[],0,40,0⟩,fun z=>z.1<=l.length/\(z.2=true↔zdb l z.1)/\∀n∈l.take z.1,0<=n/\n<=1048576,fun z=>l.length - z.1,(0,decide (l=[])),?_,?_,?_⟩
 ·refine ⟨Nat.zero_le _,?_,fun n hn=>by cases hn⟩;show decide (l=[])=true↔_;unfold zdb;rw [decide_eq_true_iff];exact ⟨.inl,fun h=>h.elim id (fun ⟨n,hn,_⟩=>by cases hn)⟩
 ·refine Sub.trans (qW (t:=3) (s':=bl (decide (l=[]))) rfl (zrw ?_)) (qw [] rfl rfl rfl ⟨rfl,rfl,rfl,trivial⟩ trivial);rw [decide_eq_true_iff,← List.length_eq_zero_iff];omega
 rintro ⟨i,b⟩ ⟨h1,h2,h3⟩
 dsimp only at h1 h2 h3;intro hl2;refine Br.mk (fun g=>?_) (fun g=>?_)
 ·have g:(i:Int) < l.length:=g;refine Ob.o ?_;intro x hx;refine zb.t (zbA x 0 1048576) ?_;refine Br.mk (fun a1=>ze (zi4 hx a1)) (fun a1=>?_);have a1:0<=x/\x<=1048576:=Decidable.not_not.1 a1;have hx:l[i]? =some x:=hx
  cases b with
  | true=>
   refine Ar.o ?_;refine ⟨(i+1,true),⟨by dsimp only;omega,?_,zfC hx h3 a1⟩,zf [],by dsimp only;omega⟩;exact ⟨fun _=>(zcc hx).2 (.inl (h2.1 rfl)),fun _=>rfl⟩
  | false=>
   refine Ob.o ?_;intro y hy;have hy:l[i]? =some y:=hy;have e:x=y:=Option.some.inj ((show l[i]? =some x from hx).symm.trans hy);subst e;refine Ar.o ?_;refine ⟨(i+1,decide (0 < x)),⟨by dsimp only;omega,?_,zfC hx h3 a1⟩,Sub.trans (qW (t:=3) (s':=bl (decide (0 < x))) rfl (zrw ?_)) (qw [] rfl rfl rfl ⟨rfl,rfl,rfl,trivial⟩ trivial),by dsimp only;omega⟩
   ·show decide (0 < x)=true↔zdb l (i+1);rw [decide_eq_true_iff,zcc (show l[i]? =some x from hx)];exact ⟨.inr,fun h=>h.elim (fun k=>by have:=h2.2 k;cases this) id⟩
   ·rw [decide_eq_true_iff]
 ·have g:¬(i:Int) < l.length:=g;have hd:=zrU (l:=l) (i:=i) oM h3
  cases b with
  | false=>
   exact ze (fun k=>by have:=h2.2 (hd.1 k).1;cases this)
  | true=>
   intro hl3;refine Br.mk (fun a1=>?_) (fun a1=>ze (fun k=>a1 (hd.1 k).2.2));intro hl4;refine Dv.pos ⟨oM,oM⟩ ?_;exact zF ⟨fun k=>hd.2 ⟨h2.1 rfl,oM,a1⟩,fun k=>by have:=(hd.1 k).2.1;omega⟩
theorem zhc(p:Pen):qa p↔((1<=p.w/\p.w<=16384)/\(p.j=1∨p.j=2∨p.j=3)/\(p.c=3∨p.c=4∨p.c=5)/\(256<=p.m/\p.m<=65536)/\(0<=p.ph/\p.ph<=1048576))/\v6 p.d:=by
 unfold qa kB;exact ⟨fun h=>⟨⟨h.1,h.2.1,h.2.2.1,h.2.2.2.1,h.2.2.2.2.2⟩,h.2.2.2.2.1⟩,fun h=>⟨h.1.1,h.1.2.1,h.1.2.2.1,h.1.2.2.2.1,h.2,h.1.2.2.2.2⟩⟩
theorem zy5(p:Pen):zd Tryz.prog 186 [.agg (ue p)] [] (pr (qa p)) []:=by
 have hp:=zhc p;refine zc tok mix Tryz.func186 rfl rfl rfl ?_;refine zb.t (zy3 p.w) ?_;refine Br.mk (fun a1=>ze (fun k=>a1 (hp.1 k).1.1)) (fun a1=>?_);refine zb.t (zbA p.j 1 3) ?_;refine Br.mk (fun a2=>ze (fun k=>by have:=(hp.1 k).1;omega)) (fun a2=>?_);refine zb.t (zbA p.c 3 5) ?_;refine Br.mk (fun a3=>ze (fun k=>by have:=(hp.1 k).1;omega)) (fun a3=>?_);refine zb.t (zbA p.m 256 65536) ?_;refine Br.mk (fun a4=>?_) (fun a4=>ze (fun k=>by have:=(hp.1 k).1;omega));refine zb.t (zwh p.d) ?_
 refine Br.mk (fun a5=>?_) (fun a5=>ze (fun k=>a5 (hp.1 k).2));refine zb.t (zbA p.ph 0 1048576) ?_;exact zF ⟨fun k=>hp.2 ⟨by unfold kB at a1;omega,a5⟩,fun k=>by have:=(hp.1 k).1;omega⟩
theorem zd2(p:Pen):zd Tryz.prog 205 [.agg (ue p)] [] (pr (qa p)) []:=by
 have hp:=zhc p;refine zc tok mix Tryz.func205 rfl rfl rfl ?_;refine Br.mk (fun j1=>?_) (fun j1=>?_)
 ·
  refine Br.mk (fun c1=>?_) (fun c1=>?_)
  ·
   refine zb.t (vo p.w) ?_;refine Br.mk (fun w1=>?_) (fun w1=>ze (fun k=>w1 (hp.1 k).1.1));refine Br.mk (fun m1=>?_) (fun m1=>ze (fun k=>by have:=(hp.1 k).1;omega));refine Br.mk (fun m2=>?_) (fun m2=>ze (fun k=>by have:=(hp.1 k).1;omega));refine zb.t (u0 p.d) ?_;refine Br.mk (fun d1=>?_) (fun d1=>ze (fun k=>d1 (hp.1 k).2));refine Br.mk (fun p1=>?_) (fun p1=>ze (fun k=>by have:=(hp.1 k).1;omega));exact zF ⟨fun k=>hp.2 ⟨by unfold kB at w1;omega,d1⟩,fun k=>by have:=(hp.1 k).1;omega⟩
  refine Br.mk (fun c2=>?_) (fun c2=>?_)
  ·
   refine zb.t (vo p.w) ?_;refine Br.mk (fun w1=>?_) (fun w1=>ze (fun k=>w1 (hp.1 k).1.1));refine Br.mk (fun m1=>?_) (fun m1=>ze (fun k=>by have:=(hp.1 k).1;omega));refine Br.mk (fun m2=>?_) (fun m2=>ze (fun k=>by have:=(hp.1 k).1;omega));refine zb.t (u0 p.d) ?_;refine Br.mk (fun d1=>?_) (fun d1=>ze (fun k=>d1 (hp.1 k).2));refine Br.mk (fun p1=>?_) (fun p1=>ze (fun k=>by have:=(hp.1 k).1;omega));exact zF ⟨fun k=>hp.2 ⟨by unfold kB at w1;omega,d1⟩,fun k=>by have:=(hp.1 k).1;omega⟩
  refine zb.t (vo p.w) ?_;refine Br.mk (fun w1=>?_) (fun w1=>ze (fun k=>w1 (hp.1 k).1.1));refine Br.mk (fun c3=>?_) (fun c3=>ze (fun k=>by have:=(hp.1 k).1;omega));refine Br.mk (fun m1=>?_) (fun m1=>ze (fun k=>by have:=(hp.1 k).1;omega));refine Br.mk (fun m2=>?_) (fun m2=>ze (fun k=>by have:=(hp.1 k).1;omega));refine zb.t (u0 p.d) ?_;refine Br.mk (fun d1=>?_) (fun d1=>ze (fun k=>d1 (hp.1 k).2));refine Br.mk (fun p1=>?_) (fun p1=>ze (fun k=>by have:=(hp.1 k).1;omega))
  exact zF ⟨fun k=>hp.2 ⟨by unfold kB at w1;omega,d1⟩,fun k=>by have:=(hp.1 k).1;omega⟩
 refine Br.mk (fun j2=>?_) (fun j2=>?_)
 ·
  refine Br.mk (fun c1=>?_) (fun c1=>?_)
  ·
   refine zb.t (vo p.w) ?_;refine Br.mk (fun w1=>?_) (fun w1=>ze (fun k=>w1 (hp.1 k).1.1));refine Br.mk (fun m1=>?_) (fun m1=>ze (fun k=>by have:=(hp.1 k).1;omega));refine Br.mk (fun m2=>?_) (fun m2=>ze (fun k=>by have:=(hp.1 k).1;omega));refine zb.t (u0 p.d) ?_;refine Br.mk (fun d1=>?_) (fun d1=>ze (fun k=>d1 (hp.1 k).2));refine Br.mk (fun p1=>?_) (fun p1=>ze (fun k=>by have:=(hp.1 k).1;omega));exact zF ⟨fun k=>hp.2 ⟨by unfold kB at w1;omega,d1⟩,fun k=>by have:=(hp.1 k).1;omega⟩
  refine Br.mk (fun c2=>?_) (fun c2=>?_)
  ·
   refine zb.t (vo p.w) ?_;refine Br.mk (fun w1=>?_) (fun w1=>ze (fun k=>w1 (hp.1 k).1.1));refine Br.mk (fun m1=>?_) (fun m1=>ze (fun k=>by have:=(hp.1 k).1;omega));refine Br.mk (fun m2=>?_) (fun m2=>ze (fun k=>by have:=(hp.1 k).1;omega));refine zb.t (u0 p.d) ?_;refine Br.mk (fun d1=>?_) (fun d1=>ze (fun k=>d1 (hp.1 k).2));refine Br.mk (fun p1=>?_) (fun p1=>ze (fun k=>by have:=(hp.1 k).1;omega));exact zF ⟨fun k=>hp.2 ⟨by unfold kB at w1;omega,d1⟩,fun k=>by have:=(hp.1 k).1;omega⟩
  refine zb.t (vo p.w) ?_;refine Br.mk (fun w1=>?_) (fun w1=>ze (fun k=>w1 (hp.1 k).1.1));refine Br.mk (fun c3=>?_) (fun c3=>ze (fun k=>by have:=(hp.1 k).1;omega));refine Br.mk (fun m1=>?_) (fun m1=>ze (fun k=>by have:=(hp.1 k).1;omega));refine Br.mk (fun m2=>?_) (fun m2=>ze (fun k=>by have:=(hp.1 k).1;omega));refine zb.t (u0 p.d) ?_;refine Br.mk (fun d1=>?_) (fun d1=>ze (fun k=>d1 (hp.1 k).2));refine Br.mk (fun p1=>?_) (fun p1=>ze (fun k=>by have:=(hp.1 k).1;omega))
  exact zF ⟨fun k=>hp.2 ⟨by unfold kB at w1;omega,d1⟩,fun k=>by have:=(hp.1 k).1;omega⟩
 refine Br.mk (fun c1=>?_) (fun c1=>?_)
 ·
  refine zb.t (vo p.w) ?_;refine Br.mk (fun w1=>?_) (fun w1=>ze (fun k=>w1 (hp.1 k).1.1));refine Br.mk (fun j3=>?_) (fun j3=>ze (fun k=>by have:=(hp.1 k).1;omega));refine Br.mk (fun m1=>?_) (fun m1=>ze (fun k=>by have:=(hp.1 k).1;omega));refine Br.mk (fun m2=>?_) (fun m2=>ze (fun k=>by have:=(hp.1 k).1;omega));refine zb.t (u0 p.d) ?_;refine Br.mk (fun d1=>?_) (fun d1=>ze (fun k=>d1 (hp.1 k).2));refine Br.mk (fun p1=>?_) (fun p1=>ze (fun k=>by have:=(hp.1 k).1;omega))
  exact zF ⟨fun k=>hp.2 ⟨by unfold kB at w1;omega,d1⟩,fun k=>by have:=(hp.1 k).1;omega⟩
 refine Br.mk (fun c2=>?_) (fun c2=>?_)
 ·
  refine zb.t (vo p.w) ?_;refine Br.mk (fun w1=>?_) (fun w1=>ze (fun k=>w1 (hp.1 k).1.1));refine Br.mk (fun j3=>?_) (fun j3=>ze (fun k=>by have:=(hp.1 k).1;omega));refine Br.mk (fun m1=>?_) (fun m1=>ze (fun k=>by have:=(hp.1 k).1;omega));refine Br.mk (fun m2=>?_) (fun m2=>ze (fun k=>by have:=(hp.1 k).1;omega));refine zb.t (u0 p.d) ?_;refine Br.mk (fun d1=>?_) (fun d1=>ze (fun k=>d1 (hp.1 k).2));refine Br.mk (fun p1=>?_) (fun p1=>ze (fun k=>by have:=(hp.1 k).1;omega))
  exact zF ⟨fun k=>hp.2 ⟨by unfold kB at w1;omega,d1⟩,fun k=>by have:=(hp.1 k).1;omega⟩
 refine zb.t (vo p.w) ?_;refine Br.mk (fun w1=>?_) (fun w1=>ze (fun k=>w1 (hp.1 k).1.1));refine Br.mk (fun j3=>?_) (fun j3=>ze (fun k=>by have:=(hp.1 k).1;omega));refine Br.mk (fun c3=>?_) (fun c3=>ze (fun k=>by have:=(hp.1 k).1;omega));refine Br.mk (fun m1=>?_) (fun m1=>ze (fun k=>by have:=(hp.1 k).1;omega));refine Br.mk (fun m2=>?_) (fun m2=>ze (fun k=>by have:=(hp.1 k).1;omega));refine zb.t (u0 p.d) ?_;refine Br.mk (fun d1=>?_) (fun d1=>ze (fun k=>d1 (hp.1 k).2))
 refine Br.mk (fun p1=>?_) (fun p1=>ze (fun k=>by have:=(hp.1 k).1;omega));exact zF ⟨fun k=>hp.2 ⟨by unfold kB at w1;omega,d1⟩,fun k=>by have:=(hp.1 k).1;omega⟩
abbrev S50(n:Int):Prop:= -1125899906842624<=n/\n<=1125899906842624
theorem zi5(p q:Pt)(hp:S50 p.x/\S50 p.y)(hq:S50 q.x/\S50 q.y):zd Tryz.prog 322 [.agg (ptE p),.agg (ptE q)] [] (.agg (ptE (zH p q))) []:=by
 refine zc tok mix Tryz.func322 rfl rfl rfl ?_;(iterate 2 refine Ar.o ?_);exact .refl
theorem jK(p q:Pt)(hp:S50 p.x/\S50 p.y)(hq:S50 q.x/\S50 q.y):zd Tryz.prog 323 [.agg (ptE p),.agg (ptE q)] [] (.agg (ptE (zQ p q))) []:=by
 refine zc tok mix Tryz.func323 rfl rfl rfl ?_;(iterate 2 refine Ar.o ?_);exact .refl
theorem zkW{v:Pt}{w:Int}(hw:kB w)(hx:¬zfy v.x)(hy:¬zfy v.y):
  (0<=v.x*v.x/\v.x*v.x<=4398046511104)/\(0<=v.y*v.y/\v.y*v.y<=4398046511104)/\
  (-34359738368<=v.x*w/\v.x*w<=34359738368)/\(-34359738368<= -v.y*w/\ -v.y*w<=34359738368)/\
  (0<=isq (65536*(v.x*v.x+v.y*v.y))/\isq (65536*(v.x*v.x+v.y*v.y)) < 4294967296):=by
 unfold zfy at hx hy;unfold kB at hw;have h1:=jy (A:=2097152) (B:=2097152) (a:=v.x) (b:=v.x) oM oM;have h2:=jy (A:=2097152) (B:=2097152) (a:=v.y) (b:=v.y) oM oM;have h3:=jy (A:=2097152) (B:=16384) (a:=v.x) (b:=w) oM oM;have h4:=jy (A:=2097152) (B:=16384) (a:= -v.y) (b:=w) oM oM;have h5:=yA v.x;have h6:=yA v.y;have h7:=zfx (n:=65536*(v.x*v.x+v.y*v.y)) oM oM;have h8:=zv3 (n:=65536*(v.x*v.x+v.y*v.y)) oM oM;exact ⟨oM,oM,oM,oM,h7.1,h8⟩
theorem zgA(v:Pt)(w:Int):(-4398046511104<=(k8 v w).x/\(k8 v w).x<=4398046511104)/\(-4398046511104<=(k8 v w).y/\(k8 v w).y<=4398046511104):=by
 unfold k8
 split
 ·exact ⟨⟨dC,dC⟩,⟨dC,dC⟩⟩
 ·rename_i h;rw [not_or,not_or,not_or] at h;have hf:=zkW (Decidable.not_not.1 h.1) h.2.1 h.2.2.1;exact ⟨uC (M:=4398046511104) oM,uC (M:=4398046511104) oM⟩
theorem zi6(v:Pt)(w:Int):zd Tryz.prog 338 [.agg (ptE v),i64 w] [] (.agg (ptE (k8 v w))) []:=by
 refine zc tok mix Tryz.func338 rfl rfl rfl ?_
 have bad:(¬kB w∨zfy v.x∨zfy v.y∨v=zp)->LE (.agg (ptE zp)) (.agg (ptE (k8 v w))):=fun h=>by
  unfold k8;rw [if_pos h];exact .refl
 refine zb.t (vo w) ?_;refine Br.mk (fun a1=>bad (.inl a1)) (fun a1=>?_);refine zb.t (zAx v.x) ?_;refine Br.mk (fun a2=>bad (.inr (.inl a2))) (fun a2=>?_);refine zb.t (zAx v.y) ?_;refine Br.mk (fun a3=>bad (.inr (.inr (.inl a3)))) (fun a3=>?_);refine Br.mk (fun a4=>bad (.inr (.inr (.inr (qJ.1 a4))))) (fun a4=>?_);have a1:=Decidable.not_not.1 a1;have hf:=zkW a1 a2 a3;have a4:¬v=zp:=fun h=>a4 (qJ.2 h)
 (iterate 5 refine Ar.o ?_);refine zb.t (zv9 (65536*(v.x*v.x+v.y*v.y)) oM) ?_;refine Ar.o ?_;refine Dr.k ?_;unfold kB at a1;unfold zfy at a2 a3;(iterate 3 refine Ar.o ?_);refine zb.t (zI (-v.y*w*128) (isq (65536*(v.x*v.x+v.y*v.y))) ⟨oM,oM⟩ ⟨oM,oM⟩) ?_;rw [zbz oM];(iterate 2 refine Ar.o ?_);refine zb.t (zI (v.x*w*128) (isq (65536*(v.x*v.x+v.y*v.y))) ⟨oM,oM⟩ ⟨oM,oM⟩) ?_;rw [zbz oM];unfold k8
 rw [if_neg (by unfold kB zfy;intro h;rcases h with h | h | h | h <;> first | exact a4 h | omega)];exact .refl
structure Pl where
 pts:List Pt
 cl:Bool
def plE(q:Pl):List SV:=[.sl ptE q.pts,pr (q.cl=true)]
def zu(r:List Pt):List SV:=[.sl ptE r]
def jL:List Pt->List Pt
 | []=>[]
 | p::r=>match r with
  | []=>[p]
  | q::_=>if p=q then jL r else p::jL r
def qi(l:List Pt):List Pt:=if 1 < l.length/\l.getLast?=l.head? then l.dropLast else l
def zL(p:Pl):Pl:=⟨if p.cl then qi (jL p.pts) else jL p.pts,p.cl⟩
def yC:List Pt->Prop
 | []=>True
 | p::r=>(∀q,r.head?=some q->p≠q)/\yC r
theorem zi7:∀l:List Pt,(jL l).head?=l.head?
 | []=>rfl
 | [p]=>rfl
 | p::q::r=>by
  unfold jL;dsimp only
  split
  ·rename_i h;rw [zi7 (q::r),h];rfl
  ·rfl
theorem zdc:∀l:List Pt,yC (jL l)
 | []=>trivial
 | [p]=>⟨fun _ h=>(by cases h),trivial⟩
 | p::q::r=>by
  unfold jL;dsimp only
  split
  ·exact zdc (q::r)
  ·rename_i h;refine ⟨fun z hz=>?_,zdc (q::r)⟩;rw [zi7] at hz
   cases hz
   exact h
def nth(l:List Pt)(i:Nat):Pt:=l.getD i zp
def jZ(p:Pl)(pen:Pen):List (List Pt):=
 ((List.range (p.pts.length - 1)).flatMap fun i=>qV (uN (nth p.pts i) (nth p.pts (i+1)) pen.w))++
 (if p.cl/\1 < p.pts.length then qV (uN (nth p.pts (p.pts.length - 1)) (nth p.pts 0) pen.w) else [])
def zi8(p:Pl)(pen:Pen):List (List Pt):=
 if p.pts.length<=1 then [] else
 (List.range p.pts.length).flatMap fun i=>if ¬p.cl=true/\(i=0∨i=p.pts.length - 1) then []
  else vd (nth p.pts ((i+p.pts.length - 1) % p.pts.length)) (nth p.pts i) (nth p.pts ((i+1) % p.pts.length)) pen
def zbl(a b:Pt)(pen:Pen):List Pt:=if pen.c=5 then zqm a b pen.w else if pen.c=3 then zcx b pen.w else []
def zeJ(p:Pt)(pen:Pen):List Pt:=if pen.c=5 then zi2 p pen.w else if pen.c=3 then zcx p pen.w else []
def zdd(p:Pl)(pen:Pen):List (List Pt):=
 if p.pts.length=1 then qV (zeJ (nth p.pts 0) pen)
 else if 1 < p.pts.length/\¬p.cl=true then qV (zbl (nth p.pts 1) (nth p.pts 0) pen)++qV (zbl (nth p.pts (p.pts.length - 2)) (nth p.pts (p.pts.length - 1)) pen) else []
def qA(p:Pl)(pen:Pen):List (List Pt):=jZ p pen++zi8 p pen++zdd p pen
def qh(l:List (List Pt)):Nat:=(l.map List.length).sum
def qu(p:Pl)(pen:Pen):List (List Pt)×Int:=
 if ¬qa pen then ([],13) else if ¬∀q∈p.pts,zn q then ([],6) else if 4096 < p.pts.length then ([],5)
 else if ¬∀r∈qA (zL p) pen,∀q∈r,zn q then ([],6) else if 4096 < qh (qA (zL p) pen) then ([],5) else (qA (zL p) pen,0)
def qB:List Pl->Pen->List (List Pt)×Int
 | [],_=>([],0)
 | p::r,pen=>if (qu p pen).2≠0 then ([],(qu p pen).2)
  else if (qB r pen).2≠0 then ([],(qB r pen).2) else ((qu p pen).1++(qB r pen).1,0)
def jh(l:List Pl)(pen:Pen):List (List Pt)×Int:=
 if ¬qa pen then ([],13) else if (qB l pen).2≠0 then ([],(qB l pen).2) else if 4096 < qh (qB l pen).1 then ([],5) else ((qB l pen).1,0)
def vN(a b c:Pt):Int:=(a.x - 2*b.x+c.x)*(a.x - 2*b.x+c.x)+(a.y - 2*b.y+c.y)*(a.y - 2*b.y+c.y)
def enough(need tol:Int)(n:Nat):Prop:=need<=16*n*n*n*n*tol*tol
instance (need tol:Int) (n:Nat):Decidable (enough need tol n):=inferInstanceAs (Decidable (_<=_))
def vp(need tol:Int):Nat->Nat->Int×Int
 | 0,_=>(0,11)
 | k+1,n=>if enough need tol n then (n,0) else vp need tol k (n+1)
def jd(need tol:Int)(l:List Pt):Int×Int:=if ¬(1<=tol/\tol<=256) then (0,2) else if ¬∀p∈l,zn p then (0,6) else vp need tol 64 1
def jE(a b c:Pt)(tol:Int):Int×Int:=jd (vN a b c) tol [a,b,c]
def jF(a b c d:Pt)(tol:Int):Int×Int:=jd (9*max (vN a b c) (vN b c d)) tol [a,b,c,d]
def zty(l:List Pt)(i n:Int):Prop:=(∀p∈l,zn p)/\1<=n/\n<=64/\0<=i/\i<=n
instance (l:List Pt) (i n:Int):Decidable (zty l i n):=inferInstanceAs (Decidable (_/\_))
def q1(i n a b c:Int):Int:=zcw ((n - i)*(n - i)*a+2*i*(n - i)*b+i*i*c) (n*n)
def uf(a b c:Pt)(i n:Int):Pt:=if ¬zty [a,b,c] i n then zp else ⟨q1 i n a.x b.x c.x,q1 i n a.y b.y c.y⟩
def c1(i n a b c d:Int):Int:=zcw ((n - i)*(n - i)*(n - i)*a+3*i*(n - i)*(n - i)*b+3*i*i*(n - i)*c+i*i*i*d) (n*n*n)
def ug(a b c d:Pt)(i n:Int):Pt:=if ¬zty [a,b,c,d] i n then zp else ⟨c1 i n a.x b.x c.x d.x,c1 i n a.y b.y c.y d.y⟩
def zde(f:Int->Pt)(n:Nat):List Pt:=(List.range n).map fun (i:Nat)=>f ((i:Int)+1)
def zaK(a b c:Pt)(tol:Int):List Pt×Int:=if (jE a b c tol).2≠0 then ([],(jE a b c tol).2) else (zde (fun i=>uf a b c i (jE a b c tol).1) (jE a b c tol).1.toNat,0)
def zaL(a b c d:Pt)(tol:Int):List Pt×Int:=if (jF a b c d tol).2≠0 then ([],(jF a b c d tol).2) else (zde (fun i=>ug a b c d i (jF a b c d tol).1) (jF a b c d tol).1.toNat,0)
def kq(rs:List (List Pt)):Prop:=(qh rs:Int)<=4096/\∀r∈rs,∀p∈r,zn p
instance (rs:List (List Pt)):Decidable (kq rs):=inferInstanceAs (Decidable (_/\_))
theorem zkX(r:List Pt):kq [r]↔zmw r:=by
 unfold kq zmw qh;simp
def zhd(xs:List Pt):Int:=match xs.findIdx? (fun p=>decide (¬zn p)) with
 | some i=>i
 | none=> -1
theorem zor{xs:List Pt}{i:Nat}{p:Pt}(h:∀(j:Nat) q,j < i->xs[j]? =some q->zn q)(hi:xs[i]? =some p)(hp:¬zn p):zhd xs=i:=by
 have:xs.findIdx? (fun p=>decide (¬zn p))=some i:=by
  rw [List.findIdx?_eq_some_iff_getElem];obtain ⟨hl,he⟩:=List.getElem?_eq_some_iff.1 hi;refine ⟨hl,by simp [he,hp],fun j hj=>?_⟩;have:=h j xs[j] hj (List.getElem?_eq_getElem _);simp [this]
 simp only [zhd,this]
theorem zeK{xs:List Pt}(h:∀p∈xs,zn p):zhd xs= -1:=by
 have:xs.findIdx? (fun p=>decide (¬zn p))=none:=by
  rw [List.findIdx?_eq_none_iff];intro p hp;simp [h p hp]
 simp only [zhd,this]
theorem zfD{xs:List Pt}:0<=zhd xs↔¬∀p∈xs,zn p:=by
 constructor
 ·intro h hall;rw [zeK hall] at h;omega
 ·intro h;unfold zhd
  split
  ·omega
  ·rename_i hn;rw [List.findIdx?_eq_none_iff] at hn;exact absurd (fun p hp=>by simpa using hn p hp) h
theorem zwi(p:Pt):zd Tryz.prog 129 [.agg (ptE p)] [] (pr (¬zn p)) []:=by
 refine zc tok mix Tryz.func129 rfl rfl rfl ?_;refine zb.t (kS p) ?_;exact zF Iff.rfl
theorem zy6(xs:List Pt):zd Tryz.prog 174 [.sl ptE xs,.fn 129 []] [] (i64 (zhd xs)) []:=by
 refine zc tok mix Tryz.func174 rfl rfl rfl ?_;intro hl0;refine ⟨Int,fun i=>⟨[(8,i64 i),(7,i64 xs.length),(0,.sl ptE xs),(1,.fn 129 [])],[],0,19,0⟩,fun i=>0<=i/\i<=xs.length/\∀(j:Nat) q,(j:Int) < i->xs[j]? =some q->zn q,fun i=>((xs.length:Int) - i).toNat,0,?_,?_,?_⟩
 ·exact ⟨oM,oM,fun j q hj=>by omega⟩
 ·exact zf []
 rintro i ⟨h1,h2,h3⟩
 refine Br.mk (fun h4=>?_) (fun h4=>?_)
 ·refine Ob.o ?_;intro x hx;refine zb.t (zwi x) ?_;refine Br.mk (fun h5=>?_) (fun h5=>?_)
  ·refine zj ?_;rw [zor (i:=i.toNat) (fun j q hj=>h3 j q oM) hx h5];omega
  ·refine Ar.o ?_;refine ⟨i+1,⟨oM,oM,fun j q hj hq=>?_⟩,zf [],by dsimp only;omega⟩
   by_cases e:j=i.toNat
   ·subst e;rw [hx] at hq;cases hq;exact Decidable.not_not.1 h5
   ·exact h3 j q oM hq
 ·refine zj (zeK fun p hp=>?_).symm;obtain ⟨j,hj,he⟩:=List.getElem_of_mem hp;exact h3 j p oM (by rw [← he];exact List.getElem?_eq_getElem hj)
theorem zqp(xs:List Pt):zd Tryz.prog 128 [.sl ptE xs,.fn 129 []] [] (pr (¬∀p∈xs,zn p)) []:=by
 refine zc tok mix Tryz.func128 rfl rfl rfl ?_;refine zb.t (zy6 xs) ?_;exact zF zfD
theorem zam{rs:List (List Pt)}{i:Nat}{r:List Pt}(h:rs[i]? =some r):qh (rs.take (i+1))=qh (rs.take i)+r.length:=by
 unfold qh;rw [List.take_add_one,h];simp
theorem zd3(rs:List (List Pt))(i:Nat):qh (rs.take i)<=qh rs:=by
 unfold qh
 conv=>rhs;rw [← List.take_append_drop i rs]
 rw [List.map_append,List.sum_append];omega
theorem zeL{rs:List (List Pt)}{i:Nat}{r:List Pt}(h:rs[i]? =some r)(ha:∀q∈rs.take i,∀p∈q,zn p)(hr:∀p∈r,zn p):∀q∈rs.take (i+1),∀p∈q,zn p:=by
 rw [List.take_add_one,h];intro q hq
 rcases List.mem_append.1 hq with hq | hq
 ·exact ha q hq
 ·rw [Option.toList_some,List.mem_singleton] at hq;exact hq ▸ hr
theorem zi9(rs:List (List Pt))(hs:∀r∈rs,(r.length:Int)<=9223372036854771711):zd Tryz.prog 84 [.sl zu rs] [] (pr (kq rs)) []:=by
 refine zc tok mix Tryz.func84 rfl rfl rfl ?_;intro hl1;refine ⟨Nat,fun i=>⟨[(3,i64 (qh (rs.take i):Int)),(8,i64 (i:Int)),(7,i64 (rs.length:Int)),(6,.sl zu rs)],[],0,23,0⟩,fun i=>i<=rs.length/\(qh (rs.take i):Int)<=4096/\∀q∈rs.take i,∀p∈q,zn p,fun i=>rs.length - i,0,?_,?_,?_⟩
 ·exact ⟨Nat.zero_le _,by show ((0:Nat):Int)<=4096;decide,fun q hq=>by cases hq⟩
 ·exact zf []
 rintro i ⟨h1,h2,h3⟩
 refine Br.mk (fun g=>?_) (fun g=>?_)
 ·refine Ob.o ?_;intro r hr;have hr:rs[i]? =some r:=hr;have hrl:=hs r (List.mem_of_getElem? hr);have hc:=zam hr;have hcl:=zd3 rs (i+1);intro hl2;refine Ar.o ?_;refine Br.mk (fun a1=>ze (fun k=>by have:=k.1;omega)) (fun a1=>?_);refine zb.t (zqp r) ?_;refine Br.mk (fun a2=>ze (fun k=>a2 (k.2 r (List.mem_of_getElem? hr)))) (fun a2=>?_);refine Ar.o ?_;have e:(qh (rs.take i):Int)+(r.length:Int)=((qh (rs.take (i+1)):Nat):Int):=oM;refine ⟨i+1,⟨oM,oM,zeL hr h3 (Decidable.not_not.1 a2)⟩,?_,by dsimp only;omega⟩;dsimp only;rw [← e]
  exact zf []
 ·rw [List.take_of_length_le oM] at h2 h3;exact zP ⟨h2,h3⟩
theorem zBv(n:Int)(p q:Pt)(hn: -4611686018427387904<=n/\n<=4611686018427387904):
  zd Tryz.prog 349 [.agg (ptE p),.agg (ptE q),.loc 0 0] [(0,.box 3 [i64 n])] (.tup []) [(0,.box 3 [i64 (n+zb9 p q)])]:=by
 have hc:=zgx (vE p) (vE q);refine jM tok mix Tryz.func349 rfl rfl rfl rfl rfl ?_;refine Dr.k ?_;refine zb.t (zy2 p q) ?_;refine Ar.fit (by unfold zb9;omega) ?_;exact ⟨rfl,.refl⟩
theorem zy7{i n:Nat}(h:i < n):((i:Int)+1) % (n:Int)=(((i+1) % n:Nat):Int):=by rw [Int.natCast_emod,Int.natCast_add];rfl
theorem ztz{r:List Pt}{i:Nat}{x y:Pt}(hx:r[i]? =some x)(hy:r[(((i:Int)+1) % (r.length:Int)).toNat]? =some y)(h:i < r.length):vL r (i+1)=vL r i+zb9 x y:=by
 rw [zy7 h,Int.toNat_natCast] at hy;rw [zeI,List.getD_eq_getElem?_getD,List.getD_eq_getElem?_getD,hx,hy];rfl
theorem zBw(r:List Pt)(hr:r.length<=4096):
  zd Tryz.prog 348 [.sl ptE r,.fn 349 [.loc 0 0]] [(0,.box 3 [i64 0])] (.tup []) [(0,.box 3 [i64 (vL r r.length)])]:=by
 refine jM tok mix Tryz.func348 rfl rfl rfl rfl rfl ?_;intro hl1;refine ⟨Nat,fun i=>⟨[(8,i64 (i:Int)),(7,i64 (r.length:Int)),(6,.sl ptE r),(0,.sl ptE r),(1,.fn 349 [.loc 0 0])],[(0,.box 3 [i64 (vL r i)])],1,25,1⟩,fun i=>i<=r.length,fun i=>r.length - i,0,?_,?_,?_⟩
 ·exact Nat.zero_le _
 ·exact zf [(0,some 0)]
 rintro i h1
 refine Br.mk (fun g=>?_) (fun g=>?_)
 ·have g:(i:Int) < r.length:=g;refine Ob.o ?_;intro x hx;refine Dr.d ?_;refine Ar.o ?_;intro hl2;refine Dv.pos ⟨oM,oM⟩ ?_;have q1:=Int.emod_nonneg ((i:Int)+1) (b:=(r.length:Int)) oM;have q2:=Int.emod_lt_of_pos ((i:Int)+1) (b:=(r.length:Int)) oM;refine Ob.mk ⟨q1,q2⟩ ?_;intro y hy;have hx:r[i]? =some x:=hx;have hy:r[(((i:Int)+1) % (r.length:Int)).toNat]? =some y:=hy;have ha:=zog r i;refine zb.hand 0 _ _ _ rfl (zBv (vL r i) x y oM) rfl rfl rfl rfl ?_;refine Ob.mk (by kernel_rfl) ?_;refine Ar.o ?_
  have e:vL r (i+1)=vL r i+zb9 x y:=ztz hx hy oM;refine ⟨i+1,oM,?_,by dsimp only;omega⟩;dsimp only;rw [e];exact zf [(0,some 0)]
 ·have e:i=r.length:=by have g:¬(i:Int) < r.length:=g;omega
  subst e;exact ⟨rfl,.refl⟩
theorem zBx(r:List Pt)(hr:(r.length:Int)<=9223372036854771711):zd Tryz.prog 339 [.sl ptE r] [] (i64 (zes r)) []:=by
 refine zc tok mix Tryz.func339 rfl rfl rfl ?_;refine ⟨List Pt,zu,[r],rfl,Ob.o0 ?_⟩;refine zb.see 0 _ (zi9 [r] (fun q hq=>by rw [List.mem_singleton] at hq;exact hq ▸ hr)) rfl rfl rfl ?_;refine Br.mk (fun a1=>?_) (fun a1=>?_)
 ·refine zj ?_;unfold zes;rw [if_neg (fun h=>a1 ((zkX r).2 h))]
 ·have a1:=(zkX r).1 (Decidable.not_not.1 a1);refine zb.give [1] 0 [.sl ptE r,.fn 349 [.loc 0 0]] [(0,.box 3 [i64 0])] [(0,.box 3 [i64 (vL r r.length)])] (.tup []) (zBw r (by have:=a1.1;omega)) LEs.refl rfl rfl rfl ⟨⟨_,rfl,rfl,rfl⟩,trivial⟩ rfl ⟨⟨rfl,rfl⟩,trivial⟩ ?_;refine zj ?_;unfold zes;rw [if_pos a1]
theorem ztA:zes []=0:=by decide +kernel
theorem ztB{r:List Pt}(h:zes r≠0):r.length<=4096:=by
 unfold zes at h
 split at h
 ·rename_i k;have:=k.1;omega
 ·exact absurd rfl h
end Go.Gs
