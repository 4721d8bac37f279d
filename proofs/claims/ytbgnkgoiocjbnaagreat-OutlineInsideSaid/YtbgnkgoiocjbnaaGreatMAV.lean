/- The pens, both texts. -/
import Derived.Test.YtbgnkgoiocjbnaaGreatMA
import Derived.Test.YtbgnkgoiocjbnaaGreatMAU
import Derived.Test.YtbgnkgoiocjbnaaGreatMAS
set_option maxRecDepth 100000
set_option maxHeartbeats 8000000
set_option linter.all false
namespace Go.Gs
open Go.Proofs
def yi(p:Pen):List SV:=[i64 p.w,i64 p.j,i64 p.c,i64 p.m,.sl zdT p.d,i64 p.ph]
def zbT(l:List Int)(i:Nat):Prop:=l=[]∨∃n∈l.take i,0 < n
theorem zdU{l:List Int}{i:Nat}{x:Int}(h:l[i]? =some x):l.take (i+1)=l.take i++[x]:=by
 rw [List.take_add_one,h];rfl
theorem za4{l:List Int}{i:Nat}{x:Int}(h:l[i]? =some x):zbT l (i+1)↔zbT l i∨0 < x:=by
 unfold zbT;rw [zdU h];constructor
 ·rintro (h | ⟨n,hn,h0⟩)
  ·exact .inl (.inl h)
  ·rcases List.mem_append.1 hn with hn | hn
   ·exact .inl (.inr ⟨n,hn,h0⟩)
   ·rw [List.mem_singleton] at hn;exact .inr (hn ▸ h0)
 ·rintro ((h | ⟨n,hn,h0⟩) | h)
  ·exact .inl h
  ·exact .inr ⟨n,List.mem_append_left _ hn,h0⟩
  ·exact .inr ⟨x,List.mem_append_right _ (List.mem_singleton.2 rfl),h⟩
theorem zn8{l:List Int}{i:Nat}(hi:l.length<=i)(ha:∀n∈l.take i,0<=n/\n<=1048576):uQ l↔zbT l i/\l.length % 2=0/\(l.length:Int)<=16:=by
 rw [List.take_of_length_le hi] at ha;unfold uQ zbT;rw [List.take_of_length_le hi];exact ⟨fun h=>h.2,fun h=>⟨ha,h⟩⟩
theorem zdV{l:List Int}{i:Nat}{x:Int}(h:l[i]? =some x)(ha:∀n∈l.take i,0<=n/\n<=1048576)(hx:0<=x/\x<=1048576):∀n∈l.take (i+1),0<=n/\n<=1048576:=by
 rw [zdU h];intro n hn
 rcases List.mem_append.1 hn with hn | hn
 ·exact ha n hn
 ·rw [List.mem_singleton] at hn;exact hn ▸ hx
theorem zgB{l:List Int}{i:Nat}{x:Int}(h:l[i]? =some x)(hx:¬(0<=x/\x<=1048576)):¬uQ l:=fun k=>hx (k.1 x (List.mem_of_getElem? h))
theorem y4(l:List Int):zd Tryz.prog 134 [.sl zdT l] [] (pr (uQ l)) []:=by
 refine zc tok mix Tryz.func134 rfl rfl rfl ?_;intro hl1;intro hl2;refine ⟨Nat×Bool,fun z=>⟨[(3,bl z.2),(11,i64 (z.1:Int)),(10,i64 (l.length:Int)),(9,.sl zdT l),(0,.sl zdT l)],[],0,39,0⟩,fun z=>z.1<=l.length/\(z.2=true↔zbT l z.1)/\∀n∈l.take z.1,0<=n/\n<=1048576,fun z=>l.length - z.1,(0,decide (l=[])),?_,?_,?_⟩
 ·refine ⟨Nat.zero_le _,?_,fun n hn=>by cases hn⟩;show decide (l=[])=true↔_;unfold zbT;rw [decide_eq_true_iff];exact ⟨.inl,fun h=>h.elim id (fun ⟨n,hn,_⟩=>by cases hn)⟩
 ·refine Sub.trans (zaZ (t:=3) (s':=bl (decide (l=[]))) rfl (znS ?_)) (zh []);rw [decide_eq_true_iff,← List.length_eq_zero_iff];omega
 rintro ⟨i,b⟩ ⟨h1,h2,h3⟩
 dsimp only at h1 h2 h3;refine Br.mk (fun g=>?_) (fun g=>?_)
 ·have g:(i:Int) < l.length:=g;refine Ob.o ?_;intro x hx;refine Br.mk (fun a1=>ze (zgB hx oM)) (fun a1=>?_);refine Br.mk (fun a2=>ze (zgB hx oM)) (fun a2=>?_);have hx:l[i]? =some x:=hx
  cases b with
  | true=>
   refine Ar.o ?_;refine ⟨(i+1,true),⟨by dsimp only;omega,?_,zdV hx h3 oM⟩,zh [],by dsimp only;omega⟩;exact ⟨fun _=>(za4 hx).2 (.inl (h2.1 rfl)),fun _=>rfl⟩
  | false=>
   refine Ar.o ?_;refine ⟨(i+1,decide (0 < x)),⟨by dsimp only;omega,?_,zdV hx h3 oM⟩,Sub.trans (zaZ (t:=3) (s':=bl (decide (0 < x))) rfl (znS ?_)) (zh []),by dsimp only;omega⟩
   ·show decide (0 < x)=true↔zbT l (i+1);rw [decide_eq_true_iff,za4 (show l[i]? =some x from hx)];exact ⟨.inr,fun h=>h.elim (fun k=>by have:=h2.2 k;cases this) id⟩
   ·rw [decide_eq_true_iff]
 ·have g:¬(i:Int) < l.length:=g;have hd:=zn8 (l:=l) (i:=i) oM h3
  cases b with
  | false=>
   exact ze (fun k=>by have:=h2.2 (hd.1 k).1;cases this)
  | true=>
   intro hl3;refine Dv.pos ⟨oM,oM⟩ ?_;refine Br.mk (fun a1=>?_) (fun a1=>ze (fun k=>a1 (by have:=(hd.1 k).2.1;omega)));intro hl4;exact kZ ⟨fun k=>hd.2 ⟨h2.1 rfl,oM,k⟩,fun k=>(hd.1 k).2.2⟩
theorem zra(l:List Int):zd Tryz.prog 91 [.sl zdT l] [] (pr (uQ l)) []:=by
 refine zc tok mix Tryz.func91 rfl rfl rfl ?_;intro hl1;refine ⟨Nat×Bool,fun z=>⟨[(3,bl z.2),(4,i64 (z.1:Int)),(0,.sl zdT l)],[],0,40,0⟩,fun z=>z.1<=l.length/\(z.2=true↔zbT l z.1)/\∀n∈l.take z.1,0<=n/\n<=1048576,fun z=>l.length - z.1,(0,decide (l=[])),?_,?_,?_⟩
 ·refine ⟨Nat.zero_le _,?_,fun n hn=>by cases hn⟩;show decide (l=[])=true↔_;unfold zbT;rw [decide_eq_true_iff];exact ⟨.inl,fun h=>h.elim id (fun ⟨n,hn,_⟩=>by cases hn)⟩
 ·refine Sub.trans (zaZ (t:=3) (s':=bl (decide (l=[]))) rfl (znS ?_)) (zh []);rw [decide_eq_true_iff,← List.length_eq_zero_iff];omega
 rintro ⟨i,b⟩ ⟨h1,h2,h3⟩
 dsimp only at h1 h2 h3;intro hl2;refine Br.mk (fun g=>?_) (fun g=>?_)
 ·have g:(i:Int) < l.length:=g;refine Ob.o ?_;intro x hx;refine zb.t (zaw x 0 1048576) ?_;refine Br.mk (fun a1=>ze (zgB hx a1)) (fun a1=>?_);have a1:0<=x/\x<=1048576:=Decidable.not_not.1 a1;have hx:l[i]? =some x:=hx
  cases b with
  | true=>
   refine Ar.o ?_;refine ⟨(i+1,true),⟨by dsimp only;omega,?_,zdV hx h3 a1⟩,zh [],by dsimp only;omega⟩;exact ⟨fun _=>(za4 hx).2 (.inl (h2.1 rfl)),fun _=>rfl⟩
  | false=>
   refine Ob.o ?_;intro y hy;have hy:l[i]? =some y:=hy;have e:x=y:=Option.some.inj ((show l[i]? =some x from hx).symm.trans hy);subst e;refine Ar.o ?_;refine ⟨(i+1,decide (0 < x)),⟨by dsimp only;omega,?_,zdV hx h3 a1⟩,Sub.trans (zaZ (t:=3) (s':=bl (decide (0 < x))) rfl (znS ?_)) (zh []),by dsimp only;omega⟩
   ·show decide (0 < x)=true↔zbT l (i+1);rw [decide_eq_true_iff,za4 (show l[i]? =some x from hx)];exact ⟨.inr,fun h=>h.elim (fun k=>by have:=h2.2 k;cases this) id⟩
   ·rw [decide_eq_true_iff]
 ·have g:¬(i:Int) < l.length:=g;have hd:=zn8 (l:=l) (i:=i) oM h3
  cases b with
  | false=>
   exact ze (fun k=>by have:=h2.2 (hd.1 k).1;cases this)
  | true=>
   intro hl3;refine Br.mk (fun a1=>?_) (fun a1=>ze (fun k=>a1 (hd.1 k).2.2));intro hl4;refine Dv.pos ⟨oM,oM⟩ ?_;exact kZ ⟨fun k=>hd.2 ⟨h2.1 rfl,oM,a1⟩,fun k=>by have:=(hd.1 k).2.1;omega⟩
theorem ze1(p:Pen):k8 p↔((1<=p.w/\p.w<=16384)/\(p.j=1∨p.j=2∨p.j=3)/\(p.c=3∨p.c=4∨p.c=5)/\(256<=p.m/\p.m<=65536)/\(0<=p.ph/\p.ph<=1048576))/\uQ p.d:=by
 unfold k8 zX;exact ⟨fun h=>⟨⟨h.1,h.2.1,h.2.2.1,h.2.2.2.1,h.2.2.2.2.2⟩,h.2.2.2.2.1⟩,fun h=>⟨h.1.1,h.1.2.1,h.1.2.2.1,h.1.2.2.2.1,h.2,h.1.2.2.2.2⟩⟩
theorem zta(p:Pen):zd Tryz.prog 46 [.agg (yi p)] [] (pr (k8 p)) []:=by
 have hp:=ze1 p;refine zc tok mix Tryz.func46 rfl rfl rfl ?_;refine zb.t (zs9 p.w) ?_;refine Br.mk (fun a1=>ze (fun k=>a1 (hp.1 k).1.1)) (fun a1=>?_);refine zb.t (zaw p.j 1 3) ?_;refine Br.mk (fun a2=>ze (fun k=>by have:=(hp.1 k).1;omega)) (fun a2=>?_);refine zb.t (zaw p.c 3 5) ?_;refine Br.mk (fun a3=>ze (fun k=>by have:=(hp.1 k).1;omega)) (fun a3=>?_);refine zb.t (zaw p.m 256 65536) ?_;refine Br.mk (fun a4=>?_) (fun a4=>ze (fun k=>by have:=(hp.1 k).1;omega));refine zb.t (zra p.d) ?_
 refine Br.mk (fun a5=>?_) (fun a5=>ze (fun k=>a5 (hp.1 k).2));refine zb.t (zaw p.ph 0 1048576) ?_;exact kZ ⟨fun k=>hp.2 ⟨by unfold zX at a1;omega,a5⟩,fun k=>by have:=(hp.1 k).1;omega⟩
theorem zdW(p:Pen):zd Tryz.prog 83 [.agg (yi p)] [] (pr (k8 p)) []:=by
 have hp:=ze1 p;refine zc tok mix Tryz.func83 rfl rfl rfl ?_;refine Br.mk (fun j1=>?_) (fun j1=>?_)
 ·
  refine Br.mk (fun c1=>?_) (fun c1=>?_)
  ·
   refine zb.t (uh p.w) ?_;refine Br.mk (fun w1=>?_) (fun w1=>ze (fun k=>w1 (hp.1 k).1.1));refine Br.mk (fun m1=>?_) (fun m1=>ze (fun k=>by have:=(hp.1 k).1;omega));refine Br.mk (fun m2=>?_) (fun m2=>ze (fun k=>by have:=(hp.1 k).1;omega));refine zb.t (y4 p.d) ?_;refine Br.mk (fun d1=>?_) (fun d1=>ze (fun k=>d1 (hp.1 k).2));refine Br.mk (fun p1=>?_) (fun p1=>ze (fun k=>by have:=(hp.1 k).1;omega));exact kZ ⟨fun k=>hp.2 ⟨by unfold zX at w1;omega,d1⟩,fun k=>by have:=(hp.1 k).1;omega⟩
  refine Br.mk (fun c2=>?_) (fun c2=>?_)
  ·
   refine zb.t (uh p.w) ?_;refine Br.mk (fun w1=>?_) (fun w1=>ze (fun k=>w1 (hp.1 k).1.1));refine Br.mk (fun m1=>?_) (fun m1=>ze (fun k=>by have:=(hp.1 k).1;omega));refine Br.mk (fun m2=>?_) (fun m2=>ze (fun k=>by have:=(hp.1 k).1;omega));refine zb.t (y4 p.d) ?_;refine Br.mk (fun d1=>?_) (fun d1=>ze (fun k=>d1 (hp.1 k).2));refine Br.mk (fun p1=>?_) (fun p1=>ze (fun k=>by have:=(hp.1 k).1;omega));exact kZ ⟨fun k=>hp.2 ⟨by unfold zX at w1;omega,d1⟩,fun k=>by have:=(hp.1 k).1;omega⟩
  refine zb.t (uh p.w) ?_;refine Br.mk (fun w1=>?_) (fun w1=>ze (fun k=>w1 (hp.1 k).1.1));refine Br.mk (fun c3=>?_) (fun c3=>ze (fun k=>by have:=(hp.1 k).1;omega));refine Br.mk (fun m1=>?_) (fun m1=>ze (fun k=>by have:=(hp.1 k).1;omega));refine Br.mk (fun m2=>?_) (fun m2=>ze (fun k=>by have:=(hp.1 k).1;omega));refine zb.t (y4 p.d) ?_;refine Br.mk (fun d1=>?_) (fun d1=>ze (fun k=>d1 (hp.1 k).2));refine Br.mk (fun p1=>?_) (fun p1=>ze (fun k=>by have:=(hp.1 k).1;omega))
  exact kZ ⟨fun k=>hp.2 ⟨by unfold zX at w1;omega,d1⟩,fun k=>by have:=(hp.1 k).1;omega⟩
 refine Br.mk (fun j2=>?_) (fun j2=>?_)
 ·
  refine Br.mk (fun c1=>?_) (fun c1=>?_)
  ·
   refine zb.t (uh p.w) ?_;refine Br.mk (fun w1=>?_) (fun w1=>ze (fun k=>w1 (hp.1 k).1.1));refine Br.mk (fun m1=>?_) (fun m1=>ze (fun k=>by have:=(hp.1 k).1;omega));refine Br.mk (fun m2=>?_) (fun m2=>ze (fun k=>by have:=(hp.1 k).1;omega));refine zb.t (y4 p.d) ?_;refine Br.mk (fun d1=>?_) (fun d1=>ze (fun k=>d1 (hp.1 k).2));refine Br.mk (fun p1=>?_) (fun p1=>ze (fun k=>by have:=(hp.1 k).1;omega));exact kZ ⟨fun k=>hp.2 ⟨by unfold zX at w1;omega,d1⟩,fun k=>by have:=(hp.1 k).1;omega⟩
  refine Br.mk (fun c2=>?_) (fun c2=>?_)
  ·
   refine zb.t (uh p.w) ?_;refine Br.mk (fun w1=>?_) (fun w1=>ze (fun k=>w1 (hp.1 k).1.1));refine Br.mk (fun m1=>?_) (fun m1=>ze (fun k=>by have:=(hp.1 k).1;omega));refine Br.mk (fun m2=>?_) (fun m2=>ze (fun k=>by have:=(hp.1 k).1;omega));refine zb.t (y4 p.d) ?_;refine Br.mk (fun d1=>?_) (fun d1=>ze (fun k=>d1 (hp.1 k).2));refine Br.mk (fun p1=>?_) (fun p1=>ze (fun k=>by have:=(hp.1 k).1;omega));exact kZ ⟨fun k=>hp.2 ⟨by unfold zX at w1;omega,d1⟩,fun k=>by have:=(hp.1 k).1;omega⟩
  refine zb.t (uh p.w) ?_;refine Br.mk (fun w1=>?_) (fun w1=>ze (fun k=>w1 (hp.1 k).1.1));refine Br.mk (fun c3=>?_) (fun c3=>ze (fun k=>by have:=(hp.1 k).1;omega));refine Br.mk (fun m1=>?_) (fun m1=>ze (fun k=>by have:=(hp.1 k).1;omega));refine Br.mk (fun m2=>?_) (fun m2=>ze (fun k=>by have:=(hp.1 k).1;omega));refine zb.t (y4 p.d) ?_;refine Br.mk (fun d1=>?_) (fun d1=>ze (fun k=>d1 (hp.1 k).2));refine Br.mk (fun p1=>?_) (fun p1=>ze (fun k=>by have:=(hp.1 k).1;omega))
  exact kZ ⟨fun k=>hp.2 ⟨by unfold zX at w1;omega,d1⟩,fun k=>by have:=(hp.1 k).1;omega⟩
 refine Br.mk (fun c1=>?_) (fun c1=>?_)
 ·
  refine zb.t (uh p.w) ?_;refine Br.mk (fun w1=>?_) (fun w1=>ze (fun k=>w1 (hp.1 k).1.1));refine Br.mk (fun j3=>?_) (fun j3=>ze (fun k=>by have:=(hp.1 k).1;omega));refine Br.mk (fun m1=>?_) (fun m1=>ze (fun k=>by have:=(hp.1 k).1;omega));refine Br.mk (fun m2=>?_) (fun m2=>ze (fun k=>by have:=(hp.1 k).1;omega));refine zb.t (y4 p.d) ?_;refine Br.mk (fun d1=>?_) (fun d1=>ze (fun k=>d1 (hp.1 k).2));refine Br.mk (fun p1=>?_) (fun p1=>ze (fun k=>by have:=(hp.1 k).1;omega))
  exact kZ ⟨fun k=>hp.2 ⟨by unfold zX at w1;omega,d1⟩,fun k=>by have:=(hp.1 k).1;omega⟩
 refine Br.mk (fun c2=>?_) (fun c2=>?_)
 ·
  refine zb.t (uh p.w) ?_;refine Br.mk (fun w1=>?_) (fun w1=>ze (fun k=>w1 (hp.1 k).1.1));refine Br.mk (fun j3=>?_) (fun j3=>ze (fun k=>by have:=(hp.1 k).1;omega));refine Br.mk (fun m1=>?_) (fun m1=>ze (fun k=>by have:=(hp.1 k).1;omega));refine Br.mk (fun m2=>?_) (fun m2=>ze (fun k=>by have:=(hp.1 k).1;omega));refine zb.t (y4 p.d) ?_;refine Br.mk (fun d1=>?_) (fun d1=>ze (fun k=>d1 (hp.1 k).2));refine Br.mk (fun p1=>?_) (fun p1=>ze (fun k=>by have:=(hp.1 k).1;omega))
  exact kZ ⟨fun k=>hp.2 ⟨by unfold zX at w1;omega,d1⟩,fun k=>by have:=(hp.1 k).1;omega⟩
 refine zb.t (uh p.w) ?_;refine Br.mk (fun w1=>?_) (fun w1=>ze (fun k=>w1 (hp.1 k).1.1));refine Br.mk (fun j3=>?_) (fun j3=>ze (fun k=>by have:=(hp.1 k).1;omega));refine Br.mk (fun c3=>?_) (fun c3=>ze (fun k=>by have:=(hp.1 k).1;omega));refine Br.mk (fun m1=>?_) (fun m1=>ze (fun k=>by have:=(hp.1 k).1;omega));refine Br.mk (fun m2=>?_) (fun m2=>ze (fun k=>by have:=(hp.1 k).1;omega));refine zb.t (y4 p.d) ?_;refine Br.mk (fun d1=>?_) (fun d1=>ze (fun k=>d1 (hp.1 k).2))
 refine Br.mk (fun p1=>?_) (fun p1=>ze (fun k=>by have:=(hp.1 k).1;omega));exact kZ ⟨fun k=>hp.2 ⟨by unfold zX at w1;omega,d1⟩,fun k=>by have:=(hp.1 k).1;omega⟩
abbrev S50(n:Int):Prop:= -1125899906842624<=n/\n<=1125899906842624
theorem zgC(p q:Pt)(hp:S50 p.x/\S50 p.y)(hq:S50 q.x/\S50 q.y):zd Tryz.prog 236 [.agg (ptE p),.agg (ptE q)] [] (.agg (ptE (zA p q))) []:=by
 refine zc tok mix Tryz.func236 rfl rfl rfl ?_;(iterate 2 refine Ar.o ?_);exact .refl
theorem jk(p q:Pt)(hp:S50 p.x/\S50 p.y)(hq:S50 q.x/\S50 q.y):zd Tryz.prog 237 [.agg (ptE p),.agg (ptE q)] [] (.agg (ptE (zH p q))) []:=by
 refine zc tok mix Tryz.func237 rfl rfl rfl ?_;(iterate 2 refine Ar.o ?_);exact .refl
theorem zwe(p q:Pt)(hp:S50 p.x/\S50 p.y)(hq:S50 q.x/\S50 q.y):zd Tryz.prog 290 [.agg (ptE p),.agg (ptE q)] [] (.agg (ptE (zA p q))) []:=by
 refine zc tok mix Tryz.func290 rfl rfl rfl ?_;(iterate 2 refine Ar.o ?_);exact .refl
theorem zv6(p q:Pt)(hp:S50 p.x/\S50 p.y)(hq:S50 q.x/\S50 q.y):zd Tryz.prog 291 [.agg (ptE p),.agg (ptE q)] [] (.agg (ptE (zH p q))) []:=by
 refine zc tok mix Tryz.func291 rfl rfl rfl ?_;(iterate 2 refine Ar.o ?_);exact .refl
theorem zid{v:Pt}{w:Int}(hw:zX w)(hx:¬zdQ v.x)(hy:¬zdQ v.y):
  (0<=v.x*v.x/\v.x*v.x<=4398046511104)/\(0<=v.y*v.y/\v.y*v.y<=4398046511104)/\
  (-34359738368<=v.x*w/\v.x*w<=34359738368)/\(-34359738368<= -v.y*w/\ -v.y*w<=34359738368)/\
  (0<=isq (65536*(v.x*v.x+v.y*v.y))/\isq (65536*(v.x*v.x+v.y*v.y)) < 4294967296):=by
 unfold zdQ at hx hy;unfold zX at hw;have h1:=qZ (A:=2097152) (B:=2097152) (a:=v.x) (b:=v.x) oM oM;have h2:=qZ (A:=2097152) (B:=2097152) (a:=v.y) (b:=v.y) oM oM;have h3:=qZ (A:=2097152) (B:=16384) (a:=v.x) (b:=w) oM oM;have h4:=qZ (A:=2097152) (B:=16384) (a:= -v.y) (b:=w) oM oM;have h5:=jm v.x;have h6:=jm v.y;have h7:=zdP (n:=65536*(v.x*v.x+v.y*v.y)) oM oM;have h8:=zqV (n:=65536*(v.x*v.x+v.y*v.y)) oM oM;exact ⟨oM,oM,oM,oM,h7.1,h8⟩
theorem zew(v:Pt)(w:Int):(-4398046511104<=(kM v w).x/\(kM v w).x<=4398046511104)/\(-4398046511104<=(kM v w).y/\(kM v w).y<=4398046511104):=by
 unfold kM
 split
 ·exact ⟨⟨dC,dC⟩,⟨dC,dC⟩⟩
 ·rename_i h;rw [not_or,not_or,not_or] at h;have hf:=zid (Decidable.not_not.1 h.1) h.2.1 h.2.2.1;exact ⟨yI (M:=4398046511104) oM,yI (M:=4398046511104) oM⟩
theorem zgD(v:Pt)(w:Int):zd Tryz.prog 283 [.agg (ptE v),i64 w] [] (.agg (ptE (kM v w))) []:=by
 refine zc tok mix Tryz.func283 rfl rfl rfl ?_
 have bad:(¬zX w∨zdQ v.x∨zdQ v.y∨v=zp)->LE (.agg (ptE zp)) (.agg (ptE (kM v w))):=fun h=>by
  unfold kM;rw [if_pos h];exact .refl
 refine zb.t (uh w) ?_;refine Br.mk (fun a1=>bad (.inl a1)) (fun a1=>?_);refine zb.t (zuj v.x) ?_;refine Br.mk (fun a2=>bad (.inr (.inl a2))) (fun a2=>?_);refine zb.t (zuj v.y) ?_;refine Br.mk (fun a3=>bad (.inr (.inr (.inl a3)))) (fun a3=>?_);refine Br.mk (fun a4=>bad (.inr (.inr (.inr (qx.1 a4))))) (fun a4=>?_);have a1:=Decidable.not_not.1 a1;have hf:=zid a1 a2 a3;have a4:¬v=zp:=fun h=>a4 (qx.2 h)
 (iterate 5 refine Ar.o ?_);refine zb.t (zq1 (65536*(v.x*v.x+v.y*v.y)) oM) ?_;refine Ar.o ?_;refine Dr.k ?_;unfold zX at a1;unfold zdQ at a2 a3;(iterate 3 refine Ar.o ?_);refine zb.t (zC (-v.y*w*128) (isq (65536*(v.x*v.x+v.y*v.y))) ⟨oM,oM⟩ ⟨oM,oM⟩) ?_;rw [zav oM];(iterate 2 refine Ar.o ?_);refine zb.t (zC (v.x*w*128) (isq (65536*(v.x*v.x+v.y*v.y))) ⟨oM,oM⟩ ⟨oM,oM⟩) ?_;rw [zav oM];unfold kM
 rw [if_neg (by unfold zX zdQ;intro h;rcases h with h | h | h | h <;> first | exact a4 h | omega)];exact .refl
theorem zv9(v:Pt)(w:Int):zd Tryz.prog 289 [.agg (ptE v),i64 w] [] (.agg (ptE (kM v w))) []:=by
 refine zc tok mix Tryz.func289 rfl rfl rfl ?_
 have bad:(¬zX w∨zdQ v.x∨zdQ v.y∨v=zp)->LE (.agg (ptE zp)) (.agg (ptE (kM v w))):=fun h=>by
  unfold kM;rw [if_pos h];exact .refl
 have far:∀n:Int,¬(-2097152<=n/\n<=2097152)->zdQ n:=fun n h=>by unfold zdQ;omega
 refine zb.t (zs9 w) ?_;refine Br.mk (fun a1=>bad (.inl a1)) (fun a1=>?_);refine zb.t (zaw v.x (-2097152) 2097152) ?_;refine Br.mk (fun a2=>bad (.inr (.inl (far _ a2)))) (fun a2=>?_);refine zb.t (zaw v.y (-2097152) 2097152) ?_;refine Br.mk (fun a3=>bad (.inr (.inr (.inl (far _ a3))))) (fun a3=>?_);have a1:=Decidable.not_not.1 a1;have b2:¬zdQ v.x:=by unfold zdQ;omega
 have b3:¬zdQ v.y:=by unfold zdQ;omega
 have hf:=zid a1 b2 b3;(iterate 5 refine Ar.o ?_);refine zb.t (zwH (65536*(v.x*v.x+v.y*v.y)) oM) ?_;refine Ar.o ?_;refine Dr.k ?_;(iterate 3 refine Ar.o ?_);refine zb.t (zvY (-v.y*w*128) (isq (65536*(v.x*v.x+v.y*v.y))) ⟨oM,oM⟩ ⟨oM,oM⟩) ?_;rw [zav oM];(iterate 2 refine Ar.o ?_);refine zb.t (zvY (v.x*w*128) (isq (65536*(v.x*v.x+v.y*v.y))) ⟨oM,oM⟩ ⟨oM,oM⟩) ?_;rw [zav oM]
 by_cases a4:v=zp
 ·have e1:zQ (-v.y*w*128) (isq (65536*(v.x*v.x+v.y*v.y)))=0:=by
   rw [a4,show -zp.y*w*128=0 by show (-0:Int)*w*128=0;simp];exact zpi
  have e2:zQ (v.x*w*128) (isq (65536*(v.x*v.x+v.y*v.y)))=0:=by
   rw [a4,show zp.x*w*128=0 by show (0:Int)*w*128=0;simp];exact zpi
  rw [e1,e2];exact bad (.inr (.inr (.inr a4)))
 ·unfold kM;rw [if_neg (by intro h;rcases h with h | h | h | h <;> first | exact a4 h | exact h a1 | exact b2 h | exact b3 h)];exact .refl
structure Pl where
 pts:List Pt
 cl:Bool
def plE(q:Pl):List SV:=[.sl ptE q.pts,pr (q.cl=true)]
def zw(r:List Pt):List SV:=[.sl ptE r]
def qP:List Pt->List Pt
 | []=>[]
 | p::r=>match r with
  | []=>[p]
  | q::_=>if p=q then qP r else p::qP r
def kH(l:List Pt):List Pt:=if 1 < l.length/\l.getLast?=l.head? then l.dropLast else l
def zE(p:Pl):Pl:=⟨if p.cl then kH (qP p.pts) else qP p.pts,p.cl⟩
def jF:List Pt->Prop
 | []=>True
 | p::r=>(∀q,r.head?=some q->p≠q)/\jF r
theorem zgE:∀l:List Pt,(qP l).head?=l.head?
 | []=>rfl
 | [p]=>rfl
 | p::q::r=>by
  unfold qP;dsimp only
  split
  ·rename_i h;rw [zgE (q::r),h];rfl
  ·rfl
theorem zbU:∀l:List Pt,jF (qP l)
 | []=>trivial
 | [p]=>⟨fun _ h=>(by cases h),trivial⟩
 | p::q::r=>by
  unfold qP;dsimp only
  split
  ·exact zbU (q::r)
  ·rename_i h;refine ⟨fun z hz=>?_,zbU (q::r)⟩;rw [zgE] at hz
   cases hz
   exact h
theorem zcq:∀{l:List Pt} {p:Pt},p∈qP l->p∈l
 | [],_,h=>h
 | [q],_,h=>h
 | a::q::r,p,h=>by
  unfold qP at h;dsimp only at h
  split at h
  ·exact .tail _ (zcq h)
  ·cases h with
   | head=>exact .head _
   | tail _ h=>exact .tail _ (zcq h)
def nth(l:List Pt)(i:Nat):Pt:=l.getD i zp
def jr(p:Pl)(pen:Pen):List (List Pt):=
 ((List.range (p.pts.length - 1)).flatMap fun i=>kT (yl (nth p.pts i) (nth p.pts (i+1)) pen.w))++
 (if p.cl/\1 < p.pts.length then kT (yl (nth p.pts (p.pts.length - 1)) (nth p.pts 0) pen.w) else [])
def zex(p:Pl)(pen:Pen):List (List Pt):=
 if p.pts.length<=1 then [] else
 (List.range p.pts.length).flatMap fun i=>if ¬p.cl=true/\(i=0∨i=p.pts.length - 1) then []
  else yP (nth p.pts ((i+p.pts.length - 1) % p.pts.length)) (nth p.pts i) (nth p.pts ((i+1) % p.pts.length)) pen
def vD(a b:Pt)(pen:Pen):List Pt:=if pen.c=5 then zjw a b pen.w else if pen.c=3 then vZ b pen.w else []
def zcJ(p:Pt)(pen:Pen):List Pt:=if pen.c=5 then zdR p pen.w else if pen.c=3 then vZ p pen.w else []
def zbj(p:Pl)(pen:Pen):List (List Pt):=
 if p.pts.length=1 then kT (zcJ (nth p.pts 0) pen)
 else if 1 < p.pts.length/\¬p.cl=true then kT (vD (nth p.pts 1) (nth p.pts 0) pen)++kT (vD (nth p.pts (p.pts.length - 2)) (nth p.pts (p.pts.length - 1)) pen) else []
def qa(p:Pl)(pen:Pen):List (List Pt):=jr p pen++zex p pen++zbj p pen
def kN(l:List (List Pt)):Nat:=(l.map List.length).sum
def kA(p:Pl)(pen:Pen):List (List Pt)×Int:=
 if ¬k8 pen then ([],13) else if ¬∀q∈p.pts,zo q then ([],6) else if 4096 < p.pts.length then ([],5)
 else if ¬∀r∈qa (zE p) pen,∀q∈r,zo q then ([],6) else if 4096 < kN (qa (zE p) pen) then ([],5) else (qa (zE p) pen,0)
def ko:List Pl->Pen->List (List Pt)×Int
 | [],_=>([],0)
 | p::r,pen=>if (kA p pen).2≠0 then ([],(kA p pen).2)
  else if (ko r pen).2≠0 then ([],(ko r pen).2) else ((kA p pen).1++(ko r pen).1,0)
def kQ(l:List Pl)(pen:Pen):List (List Pt)×Int:=
 if ¬k8 pen then ([],13) else if (ko l pen).2≠0 then ([],(ko l pen).2) else if 4096 < kN (ko l pen).1 then ([],5) else ((ko l pen).1,0)
def jg(a b c:Pt):Int:=(a.x - 2*b.x+c.x)*(a.x - 2*b.x+c.x)+(a.y - 2*b.y+c.y)*(a.y - 2*b.y+c.y)
def enough(need tol:Int)(n:Nat):Prop:=need<=16*n*n*n*n*tol*tol
instance (need tol:Int) (n:Nat):Decidable (enough need tol n):=inferInstanceAs (Decidable (_<=_))
def jK(need tol:Int):Nat->Nat->Int×Int
 | 0,_=>(0,11)
 | k+1,n=>if enough need tol n then (n,0) else jK need tol k (n+1)
def kr(need tol:Int)(l:List Pt):Int×Int:=if ¬(1<=tol/\tol<=256) then (0,2) else if ¬∀p∈l,zo p then (0,6) else jK need tol 64 1
def qj(a b c:Pt)(tol:Int):Int×Int:=kr (jg a b c) tol [a,b,c]
def qk(a b c d:Pt)(tol:Int):Int×Int:=kr (9*max (jg a b c) (jg b c d)) tol [a,b,c,d]
def zlc(l:List Pt)(i n:Int):Prop:=(∀p∈l,zo p)/\1<=n/\n<=64/\0<=i/\i<=n
instance (l:List Pt) (i n:Int):Decidable (zlc l i n):=inferInstanceAs (Decidable (_/\_))
def q1(i n a b c:Int):Int:=vY ((n - i)*(n - i)*a+2*i*(n - i)*b+i*i*c) (n*n)
def q9(a b c:Pt)(i n:Int):Pt:=if ¬zlc [a,b,c] i n then zp else ⟨q1 i n a.x b.x c.x,q1 i n a.y b.y c.y⟩
def c1(i n a b c d:Int):Int:=vY ((n - i)*(n - i)*(n - i)*a+3*i*(n - i)*(n - i)*b+3*i*i*(n - i)*c+i*i*i*d) (n*n*n)
def ja(a b c d:Pt)(i n:Int):Pt:=if ¬zlc [a,b,c,d] i n then zp else ⟨c1 i n a.x b.x c.x d.x,c1 i n a.y b.y c.y d.y⟩
def vE(f:Int->Pt)(n:Nat):List Pt:=(List.range n).map fun (i:Nat)=>f ((i:Int)+1)
def uY(a b c:Pt)(tol:Int):List Pt×Int:=if (qj a b c tol).2≠0 then ([],(qj a b c tol).2) else (vE (fun i=>q9 a b c i (qj a b c tol).1) (qj a b c tol).1.toNat,0)
def uZ(a b c d:Pt)(tol:Int):List Pt×Int:=if (qk a b c d tol).2≠0 then ([],(qk a b c d tol).2) else (vE (fun i=>ja a b c d i (qk a b c d tol).1) (qk a b c d tol).1.toNat,0)
def qg(rs:List (List Pt)):Prop:=(kN rs:Int)<=4096/\∀r∈rs,∀p∈r,zo p
instance (rs:List (List Pt)):Decidable (qg rs):=inferInstanceAs (Decidable (_/\_))
theorem zie(r:List Pt):qg [r]↔zjv r:=by
 unfold qg zjv kN;simp
def ze2(xs:List Pt):Int:=match xs.findIdx? (fun p=>decide (¬zo p)) with
 | some i=>i
 | none=> -1
theorem zld{xs:List Pt}{i:Nat}{p:Pt}(h:∀(j:Nat) q,j < i->xs[j]? =some q->zo q)(hi:xs[i]? =some p)(hp:¬zo p):ze2 xs=i:=by
 have:xs.findIdx? (fun p=>decide (¬zo p))=some i:=by
  rw [List.findIdx?_eq_some_iff_getElem];obtain ⟨hl,he⟩:=List.getElem?_eq_some_iff.1 hi;refine ⟨hl,by simp [he,hp],fun j hj=>?_⟩;have:=h j xs[j] hj (List.getElem?_eq_getElem _);simp [this]
 simp only [ze2,this]
theorem zc5{xs:List Pt}(h:∀p∈xs,zo p):ze2 xs= -1:=by
 have:xs.findIdx? (fun p=>decide (¬zo p))=none:=by
  rw [List.findIdx?_eq_none_iff];intro p hp;simp [h p hp]
 simp only [ze2,this]
theorem zdX{xs:List Pt}:0<=ze2 xs↔¬∀p∈xs,zo p:=by
 constructor
 ·intro h hall;rw [zc5 hall] at h;omega
 ·intro h;unfold ze2
  split
  ·omega
  ·rename_i hn;rw [List.findIdx?_eq_none_iff] at hn;exact absurd (fun p hp=>by simpa using hn p hp) h
theorem zrb(p:Pt):zd Tryz.prog 98 [.agg (ptE p)] [] (pr (¬zo p)) []:=by
 refine zc tok mix Tryz.func98 rfl rfl rfl ?_;refine zb.t (qc p) ?_;exact kZ Iff.rfl
theorem ztb(xs:List Pt):zd Tryz.prog 150 [.sl ptE xs,.fn 98 []] [] (i64 (ze2 xs)) []:=by
 refine zc tok mix Tryz.func150 rfl rfl rfl ?_;intro hl0;refine ⟨Int,fun i=>⟨[(8,i64 i),(7,i64 xs.length),(0,.sl ptE xs),(1,.fn 98 [])],[],0,19,0⟩,fun i=>0<=i/\i<=xs.length/\∀(j:Nat) q,(j:Int) < i->xs[j]? =some q->zo q,fun i=>((xs.length:Int) - i).toNat,0,?_,?_,?_⟩
 ·exact ⟨oM,oM,fun j q hj=>by omega⟩
 ·exact zh []
 rintro i ⟨h1,h2,h3⟩
 refine Br.mk (fun h4=>?_) (fun h4=>?_)
 ·refine Ob.o ?_;intro x hx;refine zb.t (zrb x) ?_;refine Br.mk (fun h5=>?_) (fun h5=>?_)
  ·refine zu ?_;rw [zld (i:=i.toNat) (fun j q hj=>h3 j q oM) hx h5];omega
  ·refine Ar.o ?_;refine ⟨i+1,⟨oM,oM,fun j q hj hq=>?_⟩,zh [],by dsimp only;omega⟩
   by_cases e:j=i.toNat
   ·subst e;rw [hx] at hq;cases hq;exact Decidable.not_not.1 h5
   ·exact h3 j q oM hq
 ·refine zu (zc5 fun p hp=>?_).symm;obtain ⟨j,hj,he⟩:=List.getElem_of_mem hp;exact h3 j p oM (by rw [← he];exact List.getElem?_eq_getElem hj)
theorem zmR(xs:List Pt):zd Tryz.prog 97 [.sl ptE xs,.fn 98 []] [] (pr (¬∀p∈xs,zo p)) []:=by
 refine zc tok mix Tryz.func97 rfl rfl rfl ?_;refine zb.t (ztb xs) ?_;exact kZ zdX
theorem zcr{rs:List (List Pt)}{i:Nat}{r:List Pt}(h:rs[i]? =some r):kN (rs.take (i+1))=kN (rs.take i)+r.length:=by
 unfold kN;rw [List.take_add_one,h];simp
theorem zfw(rs:List (List Pt))(i:Nat):kN (rs.take i)<=kN rs:=by
 unfold kN
 conv=>rhs;rw [← List.take_append_drop i rs]
 rw [List.map_append,List.sum_append];omega
theorem zc6{rs:List (List Pt)}{i:Nat}{r:List Pt}(h:rs[i]? =some r)(ha:∀q∈rs.take i,∀p∈q,zo p)(hr:∀p∈r,zo p):∀q∈rs.take (i+1),∀p∈q,zo p:=by
 rw [List.take_add_one,h];intro q hq
 rcases List.mem_append.1 hq with hq | hq
 ·exact ha q hq
 ·rw [Option.toList_some,List.mem_singleton] at hq;exact hq ▸ hr
theorem zgF(rs:List (List Pt))(hs:∀r∈rs,(r.length:Int)<=9223372036854771711):zd Tryz.prog 50 [.sl zw rs] [] (pr (qg rs)) []:=by
 refine zc tok mix Tryz.func50 rfl rfl rfl ?_;intro hl1;refine ⟨Nat,fun i=>⟨[(3,i64 (kN (rs.take i):Int)),(8,i64 (i:Int)),(7,i64 (rs.length:Int)),(6,.sl zw rs)],[],0,23,0⟩,fun i=>i<=rs.length/\(kN (rs.take i):Int)<=4096/\∀q∈rs.take i,∀p∈q,zo p,fun i=>rs.length - i,0,?_,?_,?_⟩
 ·exact ⟨Nat.zero_le _,by show ((0:Nat):Int)<=4096;decide,fun q hq=>by cases hq⟩
 ·exact zh []
 rintro i ⟨h1,h2,h3⟩
 refine Br.mk (fun g=>?_) (fun g=>?_)
 ·refine Ob.o ?_;intro r hr;have hr:rs[i]? =some r:=hr;have hrl:=hs r (List.mem_of_getElem? hr);have hc:=zcr hr;have hcl:=zfw rs (i+1);intro hl2;refine Ar.o ?_;refine Br.mk (fun a1=>ze (fun k=>by have:=k.1;omega)) (fun a1=>?_);refine zb.t (zmR r) ?_;refine Br.mk (fun a2=>ze (fun k=>a2 (k.2 r (List.mem_of_getElem? hr)))) (fun a2=>?_);refine Ar.o ?_;have e:(kN (rs.take i):Int)+(r.length:Int)=((kN (rs.take (i+1)):Nat):Int):=oM;refine ⟨i+1,⟨oM,oM,zc6 hr h3 (Decidable.not_not.1 a2)⟩,?_,by dsimp only;omega⟩;dsimp only;rw [← e]
  exact zh []
 ·rw [List.take_of_length_le oM] at h2 h3;exact kC ⟨h2,h3⟩
theorem zle(rs:List (List Pt)):zd Tryz.prog 20 [.sl zw rs] [] (pr (qg rs)) []:=by
 refine zc tok mix Tryz.func20 rfl rfl rfl ?_;refine ⟨Nat,fun i=>⟨[(3,i64 (kN (rs.take i):Int)),(4,i64 (i:Int)),(0,.sl zw rs)],[],0,45,0⟩,fun i=>i<=rs.length/\(kN (rs.take i):Int)<=4096/\∀q∈rs.take i,∀p∈q,zo p,fun i=>rs.length - i,0,?_,?_,?_⟩
 ·exact ⟨Nat.zero_le _,by show ((0:Nat):Int)<=4096;decide,fun q hq=>by cases hq⟩
 ·exact zh []
 rintro i ⟨h1,h2,h3⟩
 intro hl1;refine Br.mk (fun g=>?_) (fun g=>?_)
 ·refine Ob.o ?_;intro r hr;have hr:rs[i]? =some r:=hr;have hc:=zcr hr;have hcl:=zfw rs (i+1);intro hl2;refine Ar.o ?_;refine Br.mk (fun a1=>ze (fun k=>by have:=k.1;omega)) (fun a1=>?_);refine Ob.o ?_;intro r' hr';have e:r'=r:=Option.some.inj ((show rs[i]? =some r' from hr').symm.trans hr);rw [e];intro hl3;refine Ar.o ?_;have e:(kN (rs.take i):Int)+(r.length:Int)=((kN (rs.take (i+1)):Nat):Int):=oM;rw [e]
  refine ⟨Nat,fun k=>⟨[(5,i64 (k:Int)),(3,i64 (kN (rs.take (i+1)):Int)),(4,i64 (i:Int)),(0,.sl zw rs)],[],0,45,0⟩,fun k=>k<=r.length/\∀p∈r.take k,zo p,fun k=>r.length - k,0,?_,?_,?_⟩
  ·exact ⟨Nat.zero_le _,fun q hq=>by cases hq⟩
  ·exact zh []
  rintro k ⟨k1,k2⟩
  refine Ob.o ?_;intro r' hr';have e:r'=r:=Option.some.inj ((show rs[i]? =some r' from hr').symm.trans hr);rw [e];intro hl4;refine Br.mk (fun g2=>?_) (fun g2=>?_)
  ·refine Ob.o ?_;intro r' hr';have e:r'=r:=Option.some.inj ((show rs[i]? =some r' from hr').symm.trans hr);rw [e];refine Ob.o ?_;intro x hx;have hx:r[k]? =some x:=hx;refine zb.t (yG x) ?_;refine Br.mk (fun a2=>ze (fun kk=>a2 (kk.2 r (List.mem_of_getElem? hr) x (List.mem_of_getElem? hx)))) (fun a2=>?_);refine Ar.o ?_;refine ⟨k+1,⟨oM,?_⟩,zh [],by dsimp only;omega⟩;rw [List.take_add_one,hx];intro q hq
   rcases List.mem_append.1 hq with hq | hq
   ·exact k2 q hq
   ·rw [Option.toList_some,List.mem_singleton] at hq;exact hq ▸ Decidable.not_not.1 a2
  ·rw [List.take_of_length_le oM] at k2;refine Ar.o ?_;exact ⟨i+1,⟨oM,oM,zc6 hr h3 k2⟩,zh [],by dsimp only;omega⟩
 ·rw [List.take_of_length_le oM] at h2 h3;exact kC ⟨h2,h3⟩
end Go.Gs
