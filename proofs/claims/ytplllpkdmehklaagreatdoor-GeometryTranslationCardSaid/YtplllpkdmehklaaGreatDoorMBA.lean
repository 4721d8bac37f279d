/- A path turned round, the other text; rectangles za paths; the law. -/
import Derived.Test.YtplllpkdmehklaaGreatDoorMA
import Derived.Test.YtplllpkdmehklaaGreatDoorMAZ
import Derived.Test.YtplllpkdmehklaaGreatDoorMAY
set_option maxRecDepth 100000
set_option maxHeartbeats 8000000
set_option linter.all false
namespace Go.Gs
open Go.Proofs
def inR(n:Int):Prop:= -4096<=n/\n<=4096
instance (n:Int):Decidable (inR n):=inferInstanceAs (Decidable (_/\_))
def rok(a b c d:Int):Prop:=inR a/\inR b/\inR c/\inR d/\a < c/\b < d
instance (a b c d:Int):Decidable (rok a b c d):=inferInstanceAs (Decidable (_/\_))
def ve(a b c d:Int):List Sg:=if rok a b c d then [⟨1,⟨a*256,b*256⟩,zp,zp⟩,⟨2,⟨c*256,b*256⟩,zp,zp⟩,⟨2,⟨c*256,d*256⟩,zp,zp⟩,⟨2,⟨a*256,d*256⟩,zp,zp⟩,zqo] else []
def reE(a b c d:Int):List SV:=[i64 a,i64 b,i64 c,i64 d]
def uR(n:Int):List SV:=[i64 n]
theorem zBu{α:Type}{enc:α->List SV}:LE (.val (.slice none 0 0)) (.sl enc []):=fun S Pm ρ w v hg=>by
 rw [hg.val_inv];exact .d _ _ (.nil enc none)
theorem zy4(a b c d:Int):zd Tryz.prog 109 [.agg (reE a b c d)] [] (pr (¬rok a b c d)) []:=by
 refine zc tok mix Tryz.func109 rfl rfl rfl ?_;refine ⟨Int,uR,[a,b,c,d],rfl,Ob.o0 ?_⟩;intro _
 refine ⟨Nat,fun i=>⟨[(15,i64 i),(14,i64 4),(13,.own 1),(1,.loc 0 0)],[(1,.arr 3 uR 1 [a,b,c,d]),(0,.box 112 (reE a b c d))],2,38,0⟩,
  fun i=>i<=4/\∀(j:Nat) n,j < i->[a,b,c,d][j]? =some n->inR n,fun i=>4 - i,0,⟨oM,fun j n hj=>by omega⟩,zf [(0,some 0),(1,some 1)],?_⟩
 rintro i ⟨h1,h2⟩
 refine Br.mk (fun h3=>?_) (fun h3=>?_)
 ·have h3:(i:Int) < 4:=h3;refine Ob.mk ⟨oM,h3⟩ ?_;refine Ob.mk ⟨oM,h3⟩ ?_;intro n hn;have hn:[a,b,c,d][i]? =some n:=hn
  have out:¬inR n->¬rok a b c d:=fun hr ⟨r1,r2,r3,r4,_⟩=>hr (by
   have:i=0∨i=1∨i=2∨i=3:=oM
   rcases this with rfl | rfl | rfl | rfl <;> (cases hn;assumption))
  refine Br.mk (fun h4=>zP (out fun h=>by have:=h.1;omega)) (fun h4=>?_);refine Br.mk (fun h5=>zP (out fun h=>by have:=h.2;omega)) (fun h5=>?_);refine Ar.o ?_
  exact ⟨i+1,⟨oM,fun j m hj hm=>by
   by_cases e:j=i
   ·subst e;rw [hn] at hm;cases hm;exact ⟨oM,oM⟩
   ·exact h2 j m oM hm⟩,zf [(0,some 0),(1,some 1)],by dsimp only;omega⟩
 ·have h3:¬(i:Int) < 4:=h3;have h0:=h2 0 a oM rfl;have h1:=h2 1 b oM rfl;have h4:=h2 2 c oM rfl;have h5:=h2 3 d oM rfl;refine Br.mk (fun h6=>zP fun h=>by have:=h.2.2.2.2.1;omega) (fun h6=>?_);refine zF ⟨fun h7 h=>by have:=h.2.2.2.2.2;omega,fun h=>?_⟩
  by_cases h8:d<=b
  ·exact h8
  ·exact absurd ⟨h0,h1,h4,h5,oM,oM⟩ h
theorem c_at(x y:Int)(hx:inR x)(hy:inR y):zd Tryz.prog 110 [i64 x,i64 y] [] (.agg (ptE ⟨x*256,y*256⟩)) []:=by
 refine zc tok mix Tryz.func110 rfl rfl rfl ?_;unfold inR at hx hy;(iterate 2 refine Ar.o ?_);exact .refl
theorem zi3(a b c d:Int):zd Tryz.prog 64 [.agg (reE a b c d)] [] (.sl sgE (ve a b c d)) []:=by
 refine zc tok mix Tryz.func64 rfl rfl rfl ?_;have fin:∀{L:List Sg} {s:SV},ve a b c d=L->LE s (.sl sgE L)->LE s (.sl sgE (ve a b c d)):=fun e h=>e ▸ h
 refine zb.t (zy4 a b c d) ?_;refine Br.mk (fun h=>fin (if_neg h) zBu) (fun h=>?_);have h:=Decidable.not_not.1 h;have hL:=show ve a b c d=_ from if_pos h;obtain ⟨h1,h2,h3,h4,_⟩:=h;refine Dr.k ?_;refine zb.t (c_at a b h1 h2) ?_;refine zb.t (c_at c b h3 h2) ?_;refine zb.t (c_at c d h3 h4) ?_;refine zb.t (c_at a d h1 h4) ?_;refine ⟨Sg,sgE,[⟨1,⟨a*256,b*256⟩,zp,zp⟩,⟨2,⟨c*256,b*256⟩,zp,zp⟩,⟨2,⟨c*256,d*256⟩,zp,zp⟩,⟨2,⟨a*256,d*256⟩,zp,zp⟩,zqo],(by kernel_rfl),Ob.o0 ?_⟩;exact fin hL (qy rfl)
theorem zmD(n:Int):zd Tryz.prog 190 [i64 n] [] (pr (inR n)) []:=by
 refine zc tok mix Tryz.func190 rfl rfl rfl ?_;refine Br.mk (fun h=>zF ⟨fun k=>⟨h,k⟩,fun k=>k.2⟩) (fun h=>ze fun k=>h k.1)
theorem ztx(a b c d:Int):zd Tryz.prog 138 [.agg (reE a b c d)] [] (pr (inR a/\inR b/\inR c/\inR d)) []:=by
 refine zc tok mix Tryz.func138 rfl rfl rfl ?_;refine zb.t (zmD a) ?_;refine Br.mk (fun h1=>?_) (fun h1=>ze fun k=>h1 k.1);refine zb.t (zmD b) ?_;refine Br.mk (fun h2=>?_) (fun h2=>ze fun k=>h2 k.2.1);refine zb.t (zmD c) ?_;refine Br.mk (fun h3=>?_) (fun h3=>ze fun k=>h3 k.2.2.1);refine zb.t (zmD d) ?_;exact zF ⟨fun h4=>⟨h1,h2,h3,h4⟩,fun k=>k.2.2.2⟩
theorem zwg(a b c d:Int):zd Tryz.prog 92 [.agg (reE a b c d)] [] (pr (¬rok a b c d)) []:=by
 refine zc tok mix Tryz.func92 rfl rfl rfl ?_;refine zb.t (ztx a b c d) ?_;refine Br.mk (fun h=>zP fun k=>h ⟨k.1,k.2.1,k.2.2.1,k.2.2.2.1⟩) (fun h=>?_);obtain ⟨h0,h1,h4,h5⟩:=Decidable.not_not.1 h;refine Br.mk (fun h6=>zP fun h=>by have:=h.2.2.2.2.1;omega) (fun h6=>?_);refine zF ⟨fun h7 h=>by have:=h.2.2.2.2.2;omega,fun h=>?_⟩
 by_cases h8:d<=b
 ·exact h8
 ·exact absurd ⟨h0,h1,h4,h5,oM,oM⟩ h
theorem zoq(a b c d:Int):zd Tryz.prog 54 [.agg (reE a b c d)] [] (.sl sgE (ve a b c d)) []:=by
 refine zc tok mix Tryz.func54 rfl rfl rfl ?_;have fin:∀{L:List Sg} {s:SV},ve a b c d=L->LE s (.sl sgE L)->LE s (.sl sgE (ve a b c d)):=fun e h=>e ▸ h
 refine zb.t (zwg a b c d) ?_;refine Br.mk (fun h=>?_) (fun h=>?_)
 ·refine ⟨Sg,sgE,[],rfl,Ob.o2 ?_⟩;exact fin (if_neg h) .refl
 have h:=Decidable.not_not.1 h;have hL:=show ve a b c d=_ from if_pos h;obtain ⟨h1,h2,h3,h4,_⟩:=h;unfold inR at h1 h2 h3 h4;refine Dr.d ?_;(iterate 4 refine Ar.o ?_);refine Ob.mk (by kernel_rfl) ?_;refine ⟨Sg,sgE,[⟨1,⟨a*256,b*256⟩,zp,zp⟩,⟨2,⟨c*256,b*256⟩,zp,zp⟩,⟨2,⟨c*256,d*256⟩,zp,zp⟩,⟨2,⟨a*256,d*256⟩,zp,zp⟩,zqo],(by kernel_rfl),Ob.o0 ?_⟩;exact fin hL (qy rfl)
def ue(p:Pen):List SV:=[i64 p.w,i64 p.j,i64 p.c,i64 p.m,.sl uR p.d,i64 p.ph]
def zdb(l:List Int)(i:Nat):Prop:=l=[]∨∃n∈l.take i,0 < n
theorem zfB{l:List Int}{i:Nat}{x:Int}(h:l[i]? =some x):l.take (i+1)=l.take i++[x]:=by
 rw [List.take_add_one,h];rfl
theorem zcc{l:List Int}{i:Nat}{x:Int}(h:l[i]? =some x):zdb l (i+1)↔zdb l i∨0 < x:=by
 unfold zdb;rw [zfB h];constructor
 ·rintro (h | ⟨n,hn,h0⟩)
  ·exact .inl (.inl h)
  ·rcases List.mem_append.1 hn with hn | hn
   ·exact .inl (.inr ⟨n,hn,h0⟩)
   ·rw [List.mem_singleton] at hn;exact .inr (hn ▸ h0)
 ·rintro ((h | ⟨n,hn,h0⟩) | h)
  ·exact .inl h
  ·exact .inr ⟨n,List.mem_append_left _ hn,h0⟩
  ·exact .inr ⟨x,List.mem_append_right _ (List.mem_singleton.2 rfl),h⟩
theorem zrU{l:List Int}{i:Nat}(hi:l.length<=i)(ha:∀n∈l.take i,0<=n/\n<=1048576):v6 l↔zdb l i/\l.length % 2=0/\(l.length:Int)<=16:=by
 rw [List.take_of_length_le hi] at ha;unfold v6 zdb;rw [List.take_of_length_le hi];exact ⟨fun h=>h.2,fun h=>⟨ha,h⟩⟩
theorem zfC{l:List Int}{i:Nat}{x:Int}(h:l[i]? =some x)(ha:∀n∈l.take i,0<=n/\n<=1048576)(hx:0<=x/\x<=1048576):∀n∈l.take (i+1),0<=n/\n<=1048576:=by
 rw [zfB h];intro n hn
 rcases List.mem_append.1 hn with hn | hn
 ·exact ha n hn
 ·rw [List.mem_singleton] at hn;exact hn ▸ hx
theorem zi4{l:List Int}{i:Nat}{x:Int}(h:l[i]? =some x)(hx:¬(0<=x/\x<=1048576)):¬v6 l:=fun k=>hx (k.1 x (List.mem_of_getElem? h))
theorem u0(l:List Int):zd Tryz.prog 250 [.sl uR l] [] (pr (v6 l)) []:=by
 refine zc tok mix Tryz.func250 rfl rfl rfl ?_;intro hl1;intro hl2;refine ⟨Nat×Bool,fun z=>⟨[(3,bl z.2),(11,i64 (z.1:Int)),(10,i64 (l.length:Int)),(9,.sl uR l),(0,.sl uR l)],[],0,39,0⟩,fun z=>z.1<=l.length/\(z.2=true↔zdb l z.1)/\∀n∈l.take z.1,0<=n/\n<=1048576,fun z=>l.length - z.1,(0,decide (l=[])),?_,?_,?_⟩
 ·refine ⟨Nat.zero_le _,?_,fun n hn=>by cases hn⟩;show decide (l=[])=true↔_;unfold zdb;rw [decide_eq_true_iff];exact ⟨.inl,fun h=>h.elim id (fun ⟨n,hn,_⟩=>by cases hn)⟩
 ·refine Sub.trans (qW (t:=3) (s':=bl (decide (l=[]))) rfl (zrw ?_)) (qw [] rfl rfl rfl ⟨rfl,rfl,rfl,rfl,rfl,trivial⟩ trivial);rw [decide_eq_true_iff,← List.length_eq_zero_iff];omega
 rintro ⟨i,b⟩ ⟨h1,h2,h3⟩
 dsimp only at h1 h2 h3;refine Br.mk (fun g=>?_) (fun g=>?_)
 ·have g:(i:Int) < l.length:=g;refine Ob.o ?_;intro x hx;refine Br.mk (fun a1=>ze (zi4 hx oM)) (fun a1=>?_);refine Br.mk (fun a2=>ze (zi4 hx oM)) (fun a2=>?_);have hx:l[i]? =some x:=hx
  cases b with
  | true=>
   refine Ar.o ?_;refine ⟨(i+1,true),⟨by dsimp only;omega,?_,zfC hx h3 oM⟩,zf [],by dsimp only;omega⟩;exact ⟨fun _=>(zcc hx).2 (.inl (h2.1 rfl)),fun _=>rfl⟩
  | false=>
   refine Ar.o ?_;refine ⟨(i+1,decide (0 < x)),⟨by dsimp only;omega,?_,zfC hx h3 oM⟩,Sub.trans (qW (t:=3) (s':=bl (decide (0 < x))) rfl (zrw ?_)) (qw [] rfl rfl rfl ⟨rfl,rfl,rfl,rfl,rfl,trivial⟩ trivial),by dsimp only;omega⟩
   ·show decide (0 < x)=true↔zdb l (i+1);rw [decide_eq_true_iff,zcc (show l[i]? =some x from hx)];exact ⟨.inr,fun h=>h.elim (fun k=>by have:=h2.2 k;cases this) id⟩
   ·rw [decide_eq_true_iff]
 ·have g:¬(i:Int) < l.length:=g;have hd:=zrU (l:=l) (i:=i) oM h3
  cases b with
  | false=>
   exact ze (fun k=>by have:=h2.2 (hd.1 k).1;cases this)
  | true=>
   intro hl3;refine Dv.pos ⟨oM,oM⟩ ?_;refine Br.mk (fun a1=>?_) (fun a1=>ze (fun k=>a1 (by have:=(hd.1 k).2.1;omega)));intro hl4;exact zF ⟨fun k=>hd.2 ⟨h2.1 rfl,oM,k⟩,fun k=>(hd.1 k).2.2⟩
theorem zwh(l:List Int):zd Tryz.prog 237 [.sl uR l] [] (pr (v6 l)) []:=by
 refine zc tok mix Tryz.func237 rfl rfl rfl ?_;intro hl1;refine ⟨Nat×Bool,fun z=>⟨[(3,bl z.2),(4,i64 (z.1:Int)),(0,.sl uR l)],[],0,40,0⟩,fun z=>z.1<=l.length/\(z.2=true↔zdb l z.1)/\∀n∈l.take z.1,0<=n/\n<=1048576,fun z=>l.length - z.1,(0,decide (l=[])),?_,?_,?_⟩
 ·refine ⟨Nat.zero_le _,?_,fun n hn=>by cases hn⟩;show decide (l=[])=true↔_;unfold zdb;rw [decide_eq_true_iff];exact ⟨.inl,fun h=>h.elim id (fun ⟨n,hn,_⟩=>by cases hn)⟩
 ·refine Sub.trans (qW (t:=3) (s':=bl (decide (l=[]))) rfl (zrw ?_)) (qw [] rfl rfl rfl ⟨rfl,rfl,rfl,trivial⟩ trivial);rw [decide_eq_true_iff,← List.length_eq_zero_iff];omega
 rintro ⟨i,b⟩ ⟨h1,h2,h3⟩
 dsimp only at h1 h2 h3;intro hl2;refine Br.mk (fun g=>?_) (fun g=>?_)
 ·have g:(i:Int) < l.length:=g;refine Ob.o ?_;intro x hx;refine zb.t (zbA x 0 1048576) ?_;refine Br.mk (fun a1=>ze (zi4 hx a1)) (fun a1=>?_);have a1:0<=x/\x<=1048576:=Decidable.not_not.1 a1;have hx:l[i]? =some x:=hx
  cases b with
  | true=>
   refine Ar.o ?_;refine ⟨(i+1,true),⟨by dsimp only;omega,?_,zfC hx h3 a1⟩,zf [],by dsimp only;omega⟩;exact ⟨fun _=>(zcc hx).2 (.inl (h2.1 rfl)),fun _=>rfl⟩
  | false=>
   refine Ob.o ?_;intro y hy;have hy:l[i]? =some y:=hy;have e:x=y:=Option.some.inj ((show l[i]? =some x from hx).symm.trans hy);subst e;refine Ar.o ?_;refine ⟨(i+1,decide (0 < x)),⟨by dsimp only;omega,?_,zfC hx h3 a1⟩,Sub.trans (qW (t:=3) (s':=bl (decide (0 < x))) rfl (zrw ?_)) (qw [] rfl rfl rfl ⟨rfl,rfl,rfl,trivial⟩ trivial),by dsimp only;omega⟩
   ·show decide (0 < x)=true↔zdb l (i+1);rw [decide_eq_true_iff,zcc (show l[i]? =some x from hx)];exact ⟨.inr,fun h=>h.elim (fun k=>by have:=h2.2 k;cases this) id⟩
   ·rw [decide_eq_true_iff]
 ·have g:¬(i:Int) < l.length:=g;have hd:=zrU (l:=l) (i:=i) oM h3
  cases b with
  | false=>
   exact ze (fun k=>by have:=h2.2 (hd.1 k).1;cases this)
  | true=>
   intro hl3;refine Br.mk (fun a1=>?_) (fun a1=>ze (fun k=>a1 (hd.1 k).2.2));intro hl4;refine Dv.pos ⟨oM,oM⟩ ?_;exact zF ⟨fun k=>hd.2 ⟨h2.1 rfl,oM,a1⟩,fun k=>by have:=(hd.1 k).2.1;omega⟩
theorem zhc(p:Pen):qa p↔((1<=p.w/\p.w<=16384)/\(p.j=1∨p.j=2∨p.j=3)/\(p.c=3∨p.c=4∨p.c=5)/\(256<=p.m/\p.m<=65536)/\(0<=p.ph/\p.ph<=1048576))/\v6 p.d:=by
 unfold qa kB;exact ⟨fun h=>⟨⟨h.1,h.2.1,h.2.2.1,h.2.2.2.1,h.2.2.2.2.2⟩,h.2.2.2.2.1⟩,fun h=>⟨h.1.1,h.1.2.1,h.1.2.2.1,h.1.2.2.2.1,h.2,h.1.2.2.2.2⟩⟩
theorem zy5(p:Pen):zd Tryz.prog 186 [.agg (ue p)] [] (pr (qa p)) []:=by
 have hp:=zhc p;refine zc tok mix Tryz.func186 rfl rfl rfl ?_;refine zb.t (zy3 p.w) ?_;refine Br.mk (fun a1=>ze (fun k=>a1 (hp.1 k).1.1)) (fun a1=>?_);refine zb.t (zbA p.j 1 3) ?_;refine Br.mk (fun a2=>ze (fun k=>by have:=(hp.1 k).1;omega)) (fun a2=>?_);refine zb.t (zbA p.c 3 5) ?_;refine Br.mk (fun a3=>ze (fun k=>by have:=(hp.1 k).1;omega)) (fun a3=>?_);refine zb.t (zbA p.m 256 65536) ?_;refine Br.mk (fun a4=>?_) (fun a4=>ze (fun k=>by have:=(hp.1 k).1;omega));refine zb.t (zwh p.d) ?_
 refine Br.mk (fun a5=>?_) (fun a5=>ze (fun k=>a5 (hp.1 k).2));refine zb.t (zbA p.ph 0 1048576) ?_;exact zF ⟨fun k=>hp.2 ⟨by unfold kB at a1;omega,a5⟩,fun k=>by have:=(hp.1 k).1;omega⟩
theorem zd2(p:Pen):zd Tryz.prog 205 [.agg (ue p)] [] (pr (qa p)) []:=by
 have hp:=zhc p;refine zc tok mix Tryz.func205 rfl rfl rfl ?_;refine Br.mk (fun j1=>?_) (fun j1=>?_)
 ·
  refine Br.mk (fun c1=>?_) (fun c1=>?_)
  ·
   refine zb.t (vo p.w) ?_;refine Br.mk (fun w1=>?_) (fun w1=>ze (fun k=>w1 (hp.1 k).1.1));refine Br.mk (fun m1=>?_) (fun m1=>ze (fun k=>by have:=(hp.1 k).1;omega));refine Br.mk (fun m2=>?_) (fun m2=>ze (fun k=>by have:=(hp.1 k).1;omega));refine zb.t (u0 p.d) ?_;refine Br.mk (fun d1=>?_) (fun d1=>ze (fun k=>d1 (hp.1 k).2));refine Br.mk (fun p1=>?_) (fun p1=>ze (fun k=>by have:=(hp.1 k).1;omega));exact zF ⟨fun k=>hp.2 ⟨by unfold kB at w1;omega,d1⟩,fun k=>by have:=(hp.1 k).1;omega⟩
  refine Br.mk (fun c2=>?_) (fun c2=>?_)
  ·
   refine zb.t (vo p.w) ?_;refine Br.mk (fun w1=>?_) (fun w1=>ze (fun k=>w1 (hp.1 k).1.1));refine Br.mk (fun m1=>?_) (fun m1=>ze (fun k=>by have:=(hp.1 k).1;omega));refine Br.mk (fun m2=>?_) (fun m2=>ze (fun k=>by have:=(hp.1 k).1;omega));refine zb.t (u0 p.d) ?_;refine Br.mk (fun d1=>?_) (fun d1=>ze (fun k=>d1 (hp.1 k).2));refine Br.mk (fun p1=>?_) (fun p1=>ze (fun k=>by have:=(hp.1 k).1;omega));exact zF ⟨fun k=>hp.2 ⟨by unfold kB at w1;omega,d1⟩,fun k=>by have:=(hp.1 k).1;omega⟩
  refine zb.t (vo p.w) ?_;refine Br.mk (fun w1=>?_) (fun w1=>ze (fun k=>w1 (hp.1 k).1.1));refine Br.mk (fun c3=>?_) (fun c3=>ze (fun k=>by have:=(hp.1 k).1;omega));refine Br.mk (fun m1=>?_) (fun m1=>ze (fun k=>by have:=(hp.1 k).1;omega));refine Br.mk (fun m2=>?_) (fun m2=>ze (fun k=>by have:=(hp.1 k).1;omega));refine zb.t (u0 p.d) ?_;refine Br.mk (fun d1=>?_) (fun d1=>ze (fun k=>d1 (hp.1 k).2));refine Br.mk (fun p1=>?_) (fun p1=>ze (fun k=>by have:=(hp.1 k).1;omega))
  exact zF ⟨fun k=>hp.2 ⟨by unfold kB at w1;omega,d1⟩,fun k=>by have:=(hp.1 k).1;omega⟩
 refine Br.mk (fun j2=>?_) (fun j2=>?_)
 ·
  refine Br.mk (fun c1=>?_) (fun c1=>?_)
  ·
   refine zb.t (vo p.w) ?_;refine Br.mk (fun w1=>?_) (fun w1=>ze (fun k=>w1 (hp.1 k).1.1));refine Br.mk (fun m1=>?_) (fun m1=>ze (fun k=>by have:=(hp.1 k).1;omega));refine Br.mk (fun m2=>?_) (fun m2=>ze (fun k=>by have:=(hp.1 k).1;omega));refine zb.t (u0 p.d) ?_;refine Br.mk (fun d1=>?_) (fun d1=>ze (fun k=>d1 (hp.1 k).2));refine Br.mk (fun p1=>?_) (fun p1=>ze (fun k=>by have:=(hp.1 k).1;omega));exact zF ⟨fun k=>hp.2 ⟨by unfold kB at w1;omega,d1⟩,fun k=>by have:=(hp.1 k).1;omega⟩
  refine Br.mk (fun c2=>?_) (fun c2=>?_)
  ·
   refine zb.t (vo p.w) ?_;refine Br.mk (fun w1=>?_) (fun w1=>ze (fun k=>w1 (hp.1 k).1.1));refine Br.mk (fun m1=>?_) (fun m1=>ze (fun k=>by have:=(hp.1 k).1;omega));refine Br.mk (fun m2=>?_) (fun m2=>ze (fun k=>by have:=(hp.1 k).1;omega));refine zb.t (u0 p.d) ?_;refine Br.mk (fun d1=>?_) (fun d1=>ze (fun k=>d1 (hp.1 k).2));refine Br.mk (fun p1=>?_) (fun p1=>ze (fun k=>by have:=(hp.1 k).1;omega));exact zF ⟨fun k=>hp.2 ⟨by unfold kB at w1;omega,d1⟩,fun k=>by have:=(hp.1 k).1;omega⟩
  refine zb.t (vo p.w) ?_;refine Br.mk (fun w1=>?_) (fun w1=>ze (fun k=>w1 (hp.1 k).1.1));refine Br.mk (fun c3=>?_) (fun c3=>ze (fun k=>by have:=(hp.1 k).1;omega));refine Br.mk (fun m1=>?_) (fun m1=>ze (fun k=>by have:=(hp.1 k).1;omega));refine Br.mk (fun m2=>?_) (fun m2=>ze (fun k=>by have:=(hp.1 k).1;omega));refine zb.t (u0 p.d) ?_;refine Br.mk (fun d1=>?_) (fun d1=>ze (fun k=>d1 (hp.1 k).2));refine Br.mk (fun p1=>?_) (fun p1=>ze (fun k=>by have:=(hp.1 k).1;omega))
  exact zF ⟨fun k=>hp.2 ⟨by unfold kB at w1;omega,d1⟩,fun k=>by have:=(hp.1 k).1;omega⟩
 refine Br.mk (fun c1=>?_) (fun c1=>?_)
 ·
  refine zb.t (vo p.w) ?_;refine Br.mk (fun w1=>?_) (fun w1=>ze (fun k=>w1 (hp.1 k).1.1));refine Br.mk (fun j3=>?_) (fun j3=>ze (fun k=>by have:=(hp.1 k).1;omega));refine Br.mk (fun m1=>?_) (fun m1=>ze (fun k=>by have:=(hp.1 k).1;omega));refine Br.mk (fun m2=>?_) (fun m2=>ze (fun k=>by have:=(hp.1 k).1;omega));refine zb.t (u0 p.d) ?_;refine Br.mk (fun d1=>?_) (fun d1=>ze (fun k=>d1 (hp.1 k).2));refine Br.mk (fun p1=>?_) (fun p1=>ze (fun k=>by have:=(hp.1 k).1;omega))
  exact zF ⟨fun k=>hp.2 ⟨by unfold kB at w1;omega,d1⟩,fun k=>by have:=(hp.1 k).1;omega⟩
 refine Br.mk (fun c2=>?_) (fun c2=>?_)
 ·
  refine zb.t (vo p.w) ?_;refine Br.mk (fun w1=>?_) (fun w1=>ze (fun k=>w1 (hp.1 k).1.1));refine Br.mk (fun j3=>?_) (fun j3=>ze (fun k=>by have:=(hp.1 k).1;omega));refine Br.mk (fun m1=>?_) (fun m1=>ze (fun k=>by have:=(hp.1 k).1;omega));refine Br.mk (fun m2=>?_) (fun m2=>ze (fun k=>by have:=(hp.1 k).1;omega));refine zb.t (u0 p.d) ?_;refine Br.mk (fun d1=>?_) (fun d1=>ze (fun k=>d1 (hp.1 k).2));refine Br.mk (fun p1=>?_) (fun p1=>ze (fun k=>by have:=(hp.1 k).1;omega))
  exact zF ⟨fun k=>hp.2 ⟨by unfold kB at w1;omega,d1⟩,fun k=>by have:=(hp.1 k).1;omega⟩
 refine zb.t (vo p.w) ?_;refine Br.mk (fun w1=>?_) (fun w1=>ze (fun k=>w1 (hp.1 k).1.1));refine Br.mk (fun j3=>?_) (fun j3=>ze (fun k=>by have:=(hp.1 k).1;omega));refine Br.mk (fun c3=>?_) (fun c3=>ze (fun k=>by have:=(hp.1 k).1;omega));refine Br.mk (fun m1=>?_) (fun m1=>ze (fun k=>by have:=(hp.1 k).1;omega));refine Br.mk (fun m2=>?_) (fun m2=>ze (fun k=>by have:=(hp.1 k).1;omega));refine zb.t (u0 p.d) ?_;refine Br.mk (fun d1=>?_) (fun d1=>ze (fun k=>d1 (hp.1 k).2))
 refine Br.mk (fun p1=>?_) (fun p1=>ze (fun k=>by have:=(hp.1 k).1;omega));exact zF ⟨fun k=>hp.2 ⟨by unfold kB at w1;omega,d1⟩,fun k=>by have:=(hp.1 k).1;omega⟩
abbrev S50(n:Int):Prop:= -1125899906842624<=n/\n<=1125899906842624
theorem zi5(p q:Pt)(hp:S50 p.x/\S50 p.y)(hq:S50 q.x/\S50 q.y):zd Tryz.prog 322 [.agg (ptE p),.agg (ptE q)] [] (.agg (ptE (zH p q))) []:=by
 refine zc tok mix Tryz.func322 rfl rfl rfl ?_;(iterate 2 refine Ar.o ?_);exact .refl
theorem jK(p q:Pt)(hp:S50 p.x/\S50 p.y)(hq:S50 q.x/\S50 q.y):zd Tryz.prog 323 [.agg (ptE p),.agg (ptE q)] [] (.agg (ptE (zQ p q))) []:=by
 refine zc tok mix Tryz.func323 rfl rfl rfl ?_;(iterate 2 refine Ar.o ?_);exact .refl
theorem zkW{v:Pt}{w:Int}(hw:kB w)(hx:¬zfy v.x)(hy:¬zfy v.y):
  (0<=v.x*v.x/\v.x*v.x<=4398046511104)/\(0<=v.y*v.y/\v.y*v.y<=4398046511104)/\
  (-34359738368<=v.x*w/\v.x*w<=34359738368)/\(-34359738368<= -v.y*w/\ -v.y*w<=34359738368)/\
  (0<=isq (65536*(v.x*v.x+v.y*v.y))/\isq (65536*(v.x*v.x+v.y*v.y)) < 4294967296):=by
 unfold zfy at hx hy;unfold kB at hw;have h1:=jy (A:=2097152) (B:=2097152) (a:=v.x) (b:=v.x) oM oM;have h2:=jy (A:=2097152) (B:=2097152) (a:=v.y) (b:=v.y) oM oM;have h3:=jy (A:=2097152) (B:=16384) (a:=v.x) (b:=w) oM oM;have h4:=jy (A:=2097152) (B:=16384) (a:= -v.y) (b:=w) oM oM;have h5:=yA v.x;have h6:=yA v.y;have h7:=zfx (n:=65536*(v.x*v.x+v.y*v.y)) oM oM;have h8:=zv3 (n:=65536*(v.x*v.x+v.y*v.y)) oM oM;exact ⟨oM,oM,oM,oM,h7.1,h8⟩
theorem zgA(v:Pt)(w:Int):(-4398046511104<=(k8 v w).x/\(k8 v w).x<=4398046511104)/\(-4398046511104<=(k8 v w).y/\(k8 v w).y<=4398046511104):=by
 unfold k8
 split
 ·exact ⟨⟨dC,dC⟩,⟨dC,dC⟩⟩
 ·rename_i h;rw [not_or,not_or,not_or] at h;have hf:=zkW (Decidable.not_not.1 h.1) h.2.1 h.2.2.1;exact ⟨uC (M:=4398046511104) oM,uC (M:=4398046511104) oM⟩
theorem zi6(v:Pt)(w:Int):zd Tryz.prog 338 [.agg (ptE v),i64 w] [] (.agg (ptE (k8 v w))) []:=by
 refine zc tok mix Tryz.func338 rfl rfl rfl ?_
 have bad:(¬kB w∨zfy v.x∨zfy v.y∨v=zp)->LE (.agg (ptE zp)) (.agg (ptE (k8 v w))):=fun h=>by
  unfold k8;rw [if_pos h];exact .refl
 refine zb.t (vo w) ?_;refine Br.mk (fun a1=>bad (.inl a1)) (fun a1=>?_);refine zb.t (zAx v.x) ?_;refine Br.mk (fun a2=>bad (.inr (.inl a2))) (fun a2=>?_);refine zb.t (zAx v.y) ?_;refine Br.mk (fun a3=>bad (.inr (.inr (.inl a3)))) (fun a3=>?_);refine Br.mk (fun a4=>bad (.inr (.inr (.inr (qJ.1 a4))))) (fun a4=>?_);have a1:=Decidable.not_not.1 a1;have hf:=zkW a1 a2 a3;have a4:¬v=zp:=fun h=>a4 (qJ.2 h)
 (iterate 5 refine Ar.o ?_);refine zb.t (zv9 (65536*(v.x*v.x+v.y*v.y)) oM) ?_;refine Ar.o ?_;refine Dr.k ?_;unfold kB at a1;unfold zfy at a2 a3;(iterate 3 refine Ar.o ?_);refine zb.t (zI (-v.y*w*128) (isq (65536*(v.x*v.x+v.y*v.y))) ⟨oM,oM⟩ ⟨oM,oM⟩) ?_;rw [zbz oM];(iterate 2 refine Ar.o ?_);refine zb.t (zI (v.x*w*128) (isq (65536*(v.x*v.x+v.y*v.y))) ⟨oM,oM⟩ ⟨oM,oM⟩) ?_;rw [zbz oM];unfold k8
 rw [if_neg (by unfold kB zfy;intro h;rcases h with h | h | h | h <;> first | exact a4 h | omega)];exact .refl
structure Pl where
 pts:List Pt
 cl:Bool
def plE(q:Pl):List SV:=[.sl ptE q.pts,pr (q.cl=true)]
def zu(r:List Pt):List SV:=[.sl ptE r]
def jL:List Pt->List Pt
 | []=>[]
 | p::r=>match r with
  | []=>[p]
  | q::_=>if p=q then jL r else p::jL r
def qi(l:List Pt):List Pt:=if 1 < l.length/\l.getLast?=l.head? then l.dropLast else l
def zL(p:Pl):Pl:=⟨if p.cl then qi (jL p.pts) else jL p.pts,p.cl⟩
def yC:List Pt->Prop
 | []=>True
 | p::r=>(∀q,r.head?=some q->p≠q)/\yC r
theorem zi7:∀l:List Pt,(jL l).head?=l.head?
 | []=>rfl
 | [p]=>rfl
 | p::q::r=>by
  unfold jL;dsimp only
  split
  ·rename_i h;rw [zi7 (q::r),h];rfl
  ·rfl
theorem zdc:∀l:List Pt,yC (jL l)
 | []=>trivial
 | [p]=>⟨fun _ h=>(by cases h),trivial⟩
 | p::q::r=>by
  unfold jL;dsimp only
  split
  ·exact zdc (q::r)
  ·rename_i h;refine ⟨fun z hz=>?_,zdc (q::r)⟩;rw [zi7] at hz
   cases hz
   exact h
def nth(l:List Pt)(i:Nat):Pt:=l.getD i zp
def jZ(p:Pl)(pen:Pen):List (List Pt):=
 ((List.range (p.pts.length - 1)).flatMap fun i=>qV (uN (nth p.pts i) (nth p.pts (i+1)) pen.w))++
 (if p.cl/\1 < p.pts.length then qV (uN (nth p.pts (p.pts.length - 1)) (nth p.pts 0) pen.w) else [])
def zi8(p:Pl)(pen:Pen):List (List Pt):=
 if p.pts.length<=1 then [] else
 (List.range p.pts.length).flatMap fun i=>if ¬p.cl=true/\(i=0∨i=p.pts.length - 1) then []
  else vd (nth p.pts ((i+p.pts.length - 1) % p.pts.length)) (nth p.pts i) (nth p.pts ((i+1) % p.pts.length)) pen
def zbl(a b:Pt)(pen:Pen):List Pt:=if pen.c=5 then zqm a b pen.w else if pen.c=3 then zcx b pen.w else []
def zeJ(p:Pt)(pen:Pen):List Pt:=if pen.c=5 then zi2 p pen.w else if pen.c=3 then zcx p pen.w else []
def zdd(p:Pl)(pen:Pen):List (List Pt):=
 if p.pts.length=1 then qV (zeJ (nth p.pts 0) pen)
 else if 1 < p.pts.length/\¬p.cl=true then qV (zbl (nth p.pts 1) (nth p.pts 0) pen)++qV (zbl (nth p.pts (p.pts.length - 2)) (nth p.pts (p.pts.length - 1)) pen) else []
def qA(p:Pl)(pen:Pen):List (List Pt):=jZ p pen++zi8 p pen++zdd p pen
def qh(l:List (List Pt)):Nat:=(l.map List.length).sum
def qu(p:Pl)(pen:Pen):List (List Pt)×Int:=
 if ¬qa pen then ([],13) else if ¬∀q∈p.pts,zn q then ([],6) else if 4096 < p.pts.length then ([],5)
 else if ¬∀r∈qA (zL p) pen,∀q∈r,zn q then ([],6) else if 4096 < qh (qA (zL p) pen) then ([],5) else (qA (zL p) pen,0)
def qB:List Pl->Pen->List (List Pt)×Int
 | [],_=>([],0)
 | p::r,pen=>if (qu p pen).2≠0 then ([],(qu p pen).2)
  else if (qB r pen).2≠0 then ([],(qB r pen).2) else ((qu p pen).1++(qB r pen).1,0)
def jh(l:List Pl)(pen:Pen):List (List Pt)×Int:=
 if ¬qa pen then ([],13) else if (qB l pen).2≠0 then ([],(qB l pen).2) else if 4096 < qh (qB l pen).1 then ([],5) else ((qB l pen).1,0)
def vN(a b c:Pt):Int:=(a.x - 2*b.x+c.x)*(a.x - 2*b.x+c.x)+(a.y - 2*b.y+c.y)*(a.y - 2*b.y+c.y)
def enough(need tol:Int)(n:Nat):Prop:=need<=16*n*n*n*n*tol*tol
instance (need tol:Int) (n:Nat):Decidable (enough need tol n):=inferInstanceAs (Decidable (_<=_))
def vp(need tol:Int):Nat->Nat->Int×Int
 | 0,_=>(0,11)
 | k+1,n=>if enough need tol n then (n,0) else vp need tol k (n+1)
def jd(need tol:Int)(l:List Pt):Int×Int:=if ¬(1<=tol/\tol<=256) then (0,2) else if ¬∀p∈l,zn p then (0,6) else vp need tol 64 1
def jE(a b c:Pt)(tol:Int):Int×Int:=jd (vN a b c) tol [a,b,c]
def jF(a b c d:Pt)(tol:Int):Int×Int:=jd (9*max (vN a b c) (vN b c d)) tol [a,b,c,d]
def zty(l:List Pt)(i n:Int):Prop:=(∀p∈l,zn p)/\1<=n/\n<=64/\0<=i/\i<=n
instance (l:List Pt) (i n:Int):Decidable (zty l i n):=inferInstanceAs (Decidable (_/\_))
def q1(i n a b c:Int):Int:=zcw ((n - i)*(n - i)*a+2*i*(n - i)*b+i*i*c) (n*n)
def uf(a b c:Pt)(i n:Int):Pt:=if ¬zty [a,b,c] i n then zp else ⟨q1 i n a.x b.x c.x,q1 i n a.y b.y c.y⟩
def c1(i n a b c d:Int):Int:=zcw ((n - i)*(n - i)*(n - i)*a+3*i*(n - i)*(n - i)*b+3*i*i*(n - i)*c+i*i*i*d) (n*n*n)
def ug(a b c d:Pt)(i n:Int):Pt:=if ¬zty [a,b,c,d] i n then zp else ⟨c1 i n a.x b.x c.x d.x,c1 i n a.y b.y c.y d.y⟩
def zde(f:Int->Pt)(n:Nat):List Pt:=(List.range n).map fun (i:Nat)=>f ((i:Int)+1)
def zaK(a b c:Pt)(tol:Int):List Pt×Int:=if (jE a b c tol).2≠0 then ([],(jE a b c tol).2) else (zde (fun i=>uf a b c i (jE a b c tol).1) (jE a b c tol).1.toNat,0)
def zaL(a b c d:Pt)(tol:Int):List Pt×Int:=if (jF a b c d tol).2≠0 then ([],(jF a b c d tol).2) else (zde (fun i=>ug a b c d i (jF a b c d tol).1) (jF a b c d tol).1.toNat,0)
def kq(rs:List (List Pt)):Prop:=(qh rs:Int)<=4096/\∀r∈rs,∀p∈r,zn p
instance (rs:List (List Pt)):Decidable (kq rs):=inferInstanceAs (Decidable (_/\_))
theorem zkX(r:List Pt):kq [r]↔zmw r:=by
 unfold kq zmw qh;simp
def zhd(xs:List Pt):Int:=match xs.findIdx? (fun p=>decide (¬zn p)) with
 | some i=>i
 | none=> -1
theorem zor{xs:List Pt}{i:Nat}{p:Pt}(h:∀(j:Nat) q,j < i->xs[j]? =some q->zn q)(hi:xs[i]? =some p)(hp:¬zn p):zhd xs=i:=by
 have:xs.findIdx? (fun p=>decide (¬zn p))=some i:=by
  rw [List.findIdx?_eq_some_iff_getElem];obtain ⟨hl,he⟩:=List.getElem?_eq_some_iff.1 hi;refine ⟨hl,by simp [he,hp],fun j hj=>?_⟩;have:=h j xs[j] hj (List.getElem?_eq_getElem _);simp [this]
 simp only [zhd,this]
theorem zeK{xs:List Pt}(h:∀p∈xs,zn p):zhd xs= -1:=by
 have:xs.findIdx? (fun p=>decide (¬zn p))=none:=by
  rw [List.findIdx?_eq_none_iff];intro p hp;simp [h p hp]
 simp only [zhd,this]
theorem zfD{xs:List Pt}:0<=zhd xs↔¬∀p∈xs,zn p:=by
 constructor
 ·intro h hall;rw [zeK hall] at h;omega
 ·intro h;unfold zhd
  split
  ·omega
  ·rename_i hn;rw [List.findIdx?_eq_none_iff] at hn;exact absurd (fun p hp=>by simpa using hn p hp) h
theorem zwi(p:Pt):zd Tryz.prog 129 [.agg (ptE p)] [] (pr (¬zn p)) []:=by
 refine zc tok mix Tryz.func129 rfl rfl rfl ?_;refine zb.t (kS p) ?_;exact zF Iff.rfl
theorem zy6(xs:List Pt):zd Tryz.prog 174 [.sl ptE xs,.fn 129 []] [] (i64 (zhd xs)) []:=by
 refine zc tok mix Tryz.func174 rfl rfl rfl ?_;intro hl0;refine ⟨Int,fun i=>⟨[(8,i64 i),(7,i64 xs.length),(0,.sl ptE xs),(1,.fn 129 [])],[],0,19,0⟩,fun i=>0<=i/\i<=xs.length/\∀(j:Nat) q,(j:Int) < i->xs[j]? =some q->zn q,fun i=>((xs.length:Int) - i).toNat,0,?_,?_,?_⟩
 ·exact ⟨oM,oM,fun j q hj=>by omega⟩
 ·exact zf []
 rintro i ⟨h1,h2,h3⟩
 refine Br.mk (fun h4=>?_) (fun h4=>?_)
 ·refine Ob.o ?_;intro x hx;refine zb.t (zwi x) ?_;refine Br.mk (fun h5=>?_) (fun h5=>?_)
  ·refine zj ?_;rw [zor (i:=i.toNat) (fun j q hj=>h3 j q oM) hx h5];omega
  ·refine Ar.o ?_;refine ⟨i+1,⟨oM,oM,fun j q hj hq=>?_⟩,zf [],by dsimp only;omega⟩
   by_cases e:j=i.toNat
   ·subst e;rw [hx] at hq;cases hq;exact Decidable.not_not.1 h5
   ·exact h3 j q oM hq
 ·refine zj (zeK fun p hp=>?_).symm;obtain ⟨j,hj,he⟩:=List.getElem_of_mem hp;exact h3 j p oM (by rw [← he];exact List.getElem?_eq_getElem hj)
theorem zqp(xs:List Pt):zd Tryz.prog 128 [.sl ptE xs,.fn 129 []] [] (pr (¬∀p∈xs,zn p)) []:=by
 refine zc tok mix Tryz.func128 rfl rfl rfl ?_;refine zb.t (zy6 xs) ?_;exact zF zfD
theorem zam{rs:List (List Pt)}{i:Nat}{r:List Pt}(h:rs[i]? =some r):qh (rs.take (i+1))=qh (rs.take i)+r.length:=by
 unfold qh;rw [List.take_add_one,h];simp
theorem zd3(rs:List (List Pt))(i:Nat):qh (rs.take i)<=qh rs:=by
 unfold qh
 conv=>rhs;rw [← List.take_append_drop i rs]
 rw [List.map_append,List.sum_append];omega
theorem zeL{rs:List (List Pt)}{i:Nat}{r:List Pt}(h:rs[i]? =some r)(ha:∀q∈rs.take i,∀p∈q,zn p)(hr:∀p∈r,zn p):∀q∈rs.take (i+1),∀p∈q,zn p:=by
 rw [List.take_add_one,h];intro q hq
 rcases List.mem_append.1 hq with hq | hq
 ·exact ha q hq
 ·rw [Option.toList_some,List.mem_singleton] at hq;exact hq ▸ hr
theorem zi9(rs:List (List Pt))(hs:∀r∈rs,(r.length:Int)<=9223372036854771711):zd Tryz.prog 84 [.sl zu rs] [] (pr (kq rs)) []:=by
 refine zc tok mix Tryz.func84 rfl rfl rfl ?_;intro hl1;refine ⟨Nat,fun i=>⟨[(3,i64 (qh (rs.take i):Int)),(8,i64 (i:Int)),(7,i64 (rs.length:Int)),(6,.sl zu rs)],[],0,23,0⟩,fun i=>i<=rs.length/\(qh (rs.take i):Int)<=4096/\∀q∈rs.take i,∀p∈q,zn p,fun i=>rs.length - i,0,?_,?_,?_⟩
 ·exact ⟨Nat.zero_le _,by show ((0:Nat):Int)<=4096;decide,fun q hq=>by cases hq⟩
 ·exact zf []
 rintro i ⟨h1,h2,h3⟩
 refine Br.mk (fun g=>?_) (fun g=>?_)
 ·refine Ob.o ?_;intro r hr;have hr:rs[i]? =some r:=hr;have hrl:=hs r (List.mem_of_getElem? hr);have hc:=zam hr;have hcl:=zd3 rs (i+1);intro hl2;refine Ar.o ?_;refine Br.mk (fun a1=>ze (fun k=>by have:=k.1;omega)) (fun a1=>?_);refine zb.t (zqp r) ?_;refine Br.mk (fun a2=>ze (fun k=>a2 (k.2 r (List.mem_of_getElem? hr)))) (fun a2=>?_);refine Ar.o ?_;have e:(qh (rs.take i):Int)+(r.length:Int)=((qh (rs.take (i+1)):Nat):Int):=oM;refine ⟨i+1,⟨oM,oM,zeL hr h3 (Decidable.not_not.1 a2)⟩,?_,by dsimp only;omega⟩;dsimp only;rw [← e]
  exact zf []
 ·rw [List.take_of_length_le oM] at h2 h3;exact zP ⟨h2,h3⟩
theorem zwj(rs:List (List Pt)):zd Tryz.prog 41 [.sl zu rs] [] (pr (kq rs)) []:=by
 refine zc tok mix Tryz.func41 rfl rfl rfl ?_;refine ⟨Nat,fun i=>⟨[(3,i64 (qh (rs.take i):Int)),(4,i64 (i:Int)),(0,.sl zu rs)],[],0,45,0⟩,fun i=>i<=rs.length/\(qh (rs.take i):Int)<=4096/\∀q∈rs.take i,∀p∈q,zn p,fun i=>rs.length - i,0,?_,?_,?_⟩
 ·exact ⟨Nat.zero_le _,by show ((0:Nat):Int)<=4096;decide,fun q hq=>by cases hq⟩
 ·exact zf []
 rintro i ⟨h1,h2,h3⟩
 intro hl1;refine Br.mk (fun g=>?_) (fun g=>?_)
 ·refine Ob.o ?_;intro r hr;have hr:rs[i]? =some r:=hr;have hc:=zam hr;have hcl:=zd3 rs (i+1);intro hl2;refine Ar.o ?_;refine Br.mk (fun a1=>ze (fun k=>by have:=k.1;omega)) (fun a1=>?_);refine Ob.o ?_;intro r' hr';have e:r'=r:=Option.some.inj ((show rs[i]? =some r' from hr').symm.trans hr);rw [e];intro hl3;refine Ar.o ?_;have e:(qh (rs.take i):Int)+(r.length:Int)=((qh (rs.take (i+1)):Nat):Int):=oM;rw [e]
  refine ⟨Nat,fun k=>⟨[(5,i64 (k:Int)),(3,i64 (qh (rs.take (i+1)):Int)),(4,i64 (i:Int)),(0,.sl zu rs)],[],0,45,0⟩,fun k=>k<=r.length/\∀p∈r.take k,zn p,fun k=>r.length - k,0,?_,?_,?_⟩
  ·exact ⟨Nat.zero_le _,fun q hq=>by cases hq⟩
  ·exact zf []
  rintro k ⟨k1,k2⟩
  refine Ob.o ?_;intro r' hr';have e:r'=r:=Option.some.inj ((show rs[i]? =some r' from hr').symm.trans hr);rw [e];intro hl4;refine Br.mk (fun g2=>?_) (fun g2=>?_)
  ·refine Ob.o ?_;intro r' hr';have e:r'=r:=Option.some.inj ((show rs[i]? =some r' from hr').symm.trans hr);rw [e];refine Ob.o ?_;intro x hx;have hx:r[k]? =some x:=hx;refine zb.t (uB x) ?_;refine Br.mk (fun a2=>ze (fun kk=>a2 (kk.2 r (List.mem_of_getElem? hr) x (List.mem_of_getElem? hx)))) (fun a2=>?_);refine Ar.o ?_;refine ⟨k+1,⟨oM,?_⟩,zf [],by dsimp only;omega⟩;rw [List.take_add_one,hx];intro q hq
   rcases List.mem_append.1 hq with hq | hq
   ·exact k2 q hq
   ·rw [Option.toList_some,List.mem_singleton] at hq;exact hq ▸ Decidable.not_not.1 a2
  ·rw [List.take_of_length_le oM] at k2;refine Ar.o ?_;exact ⟨i+1,⟨oM,oM,zeL hr h3 k2⟩,zf [],by dsimp only;omega⟩
 ·rw [List.take_of_length_le oM] at h2 h3;exact zP ⟨h2,h3⟩
end Go.Gs
