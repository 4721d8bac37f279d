/- Positions held in a range; the way from a point. -/
import Derived.Test.YtcjnhffjmonbeaaGreatDoorMA
import Derived.Test.YtcjnhffjmonbeaaGreatDoorMBH
import Derived.Test.YtcjnhffjmonbeaaGreatDoorMBI
import Derived.Test.YtcjnhffjmonbeaaGreatDoorMAY
import Derived.Test.YtcjnhffjmonbeaaGreatDoorMAR
set_option maxRecDepth 100000
set_option maxHeartbeats 8000000
set_option linter.all false
namespace Go.Gs
open Go.Proofs
theorem zpM{n:Int}(h:R64 n):qA (n:Rat)<=2:=by
 have h1:=zfg n;have h2:=ye h;omega
structure Pnt where
 k:Int
 c:Pix
 p0:Pt
 p1:Pt
 r:Int
 st:List zfE
 sp:Int
 im:Img
 sm:Int
 t:AF
def jW(p:Pnt):List SV:=
 i64 p.k::u8 p.c.r::u8 p.c.g::u8 p.c.b::u8 p.c.a::i64 p.p0.x::i64 p.p0.y::i64 p.p1.x::i64 p.p1.y::i64 p.r::.sl zcU p.st::i64 p.sp::i64 p.im.w::i64 p.im.h::.sl zcS p.im.px::i64 p.sm::afE p.t
def Pnt.same(p q:Pnt):Prop:=p.k=q.k/\p.c=q.c/\p.p0=q.p0/\p.p1=q.p1/\p.r=q.r/\p.st=q.st/\p.sp=q.sp/\p.im=q.im/\p.sm=q.sm/\p.t.same q.t
instance (p q:Pnt):Decidable (p.same q):=inferInstanceAs (Decidable (_/\_))
theorem zk1(p q:Pnt)(hp:p.t.le 10000000)(hq:q.t.le 10000000):ze Tryz.prog 343 [.agg (jW p),.agg (jW q)] [] (pr (p.same q)) []:=by
 refine zd tok mix Tryz.func343 rfl rfl rfl ?_;refine Br.mk (fun h1=>?_) (fun h1=>zc (fun e=>h1 e.1));refine Br.mk (fun h2=>?_) (fun h2=>zc (fun e=>h2 (zfD.2 e.2.1)));refine Br.mk (fun h3=>?_) (fun h3=>zc (fun e=>h3 (jd.2 e.2.2.1)));refine Br.mk (fun h4=>?_) (fun h4=>zc (fun e=>h4 (jd.2 e.2.2.2.1)));refine Br.mk (fun h5=>?_) (fun h5=>zc (fun e=>h5 e.2.2.2.2.1));refine Br.mk (fun h6=>?_) (fun h6=>zc (fun e=>h6 e.2.2.2.2.2.2.1));refine Br.mk (fun h7=>?_) (fun h7=>zc (fun e=>h7 e.2.2.2.2.2.2.2.2.1));refine zb.t (zrh p.st q.st) ?_
 refine Br.mk (fun h8=>?_) (fun h8=>zc (fun e=>h8 e.2.2.2.2.2.1));refine zb.t (zgW p.im q.im) ?_;refine Br.mk (fun h9=>?_) (fun h9=>zc (fun e=>h9 e.2.2.2.2.2.2.2.1));refine zb.t (zlI p.t q.t hp hq) ?_;exact zu ⟨fun h=>⟨h1,zfD.1 h2,jd.1 h3,jd.1 h4,h5,h8,h6,h9,h7,h⟩,fun e=>e.2.2.2.2.2.2.2.2.2⟩
theorem zfF:LEs jb (afE kw):=by
 have h0:LEs z4 (brE zBR):=qh;have h:LEs (z4++(z4++(z4++(z4++(z4++z4))))) (afE kw):=LEs.append h0 (LEs.append h0 (LEs.append h0 (LEs.append h0 (LEs.append h0 h0))));exact h
def zuK(k:Int):Pnt:=⟨k,zaX,zp,zp,0,[],0,⟨0,0,[]⟩,0,kw⟩
def nil1:SV:=.val (.slice none 0 0)
theorem zpN(k:Int):LE (.agg (i64 k::u8 0::u8 0::u8 0::u8 0::i64 0::i64 0::i64 0::i64 0::i64 0::nil1::i64 0::i64 0::i64 0::nil1::i64 0::jb)) (.agg (jW (zuK k))):=by
 have h:=zfF;exact zuI (.cons .refl (.cons .refl (.cons .refl (.cons .refl (.cons .refl (.cons .refl (.cons .refl (.cons .refl (.cons .refl (.cons .refl (.cons zI (.cons .refl (.cons .refl (.cons .refl (.cons zI (.cons .refl h))))))))))))))))
def j7(p:Pnt):Pnt:=
 if p.k=1 then { p with c:=zaX,t:=kw } else if p.k=2 then { p with p0:=zp,p1:=zp,st:=[],sp:=0,t:=kw }
 else if p.k=3 then { p with p0:=zp,r:=0,st:=[],sp:=0,t:=kw } else if p.k=4 then { p with im:=⟨0,0,[]⟩,sp:=0,sm:=0,t:=kw } else { p with t:=kw }
theorem znn(p:Pnt):ze Tryz.prog 344 [.agg (jW p)] [] (.agg (jW (j7 p))) []:=by
 have fin:∀{σ:SV} {q:Pnt},j7 p=q->LE σ (.agg (jW q))->LE σ (.agg (jW (j7 p))):=fun e h=>e ▸ h
 refine zd tok mix Tryz.func344 rfl rfl rfl ?_;refine Br.mk (fun h1=>?_) (fun h1=>?_)
 ·refine fin (q:={ p with c:=zaX,t:=kw }) (by rw [j7,if_pos h1]) ?_;exact zuI (.cons .refl (.cons .refl (.cons .refl (.cons .refl (.cons .refl (.cons .refl (.cons .refl (.cons .refl (.cons .refl (.cons .refl (.cons .refl (.cons .refl (.cons .refl (.cons .refl (.cons .refl (.cons .refl zfF))))))))))))))))
 refine Br.mk (fun h2=>?_) (fun h2=>?_)
 ·refine fin (q:={ p with p0:=zp,p1:=zp,st:=[],sp:=0,t:=kw }) (by rw [j7,if_neg h1,if_pos h2]) ?_;exact zuI (.cons .refl (.cons .refl (.cons .refl (.cons .refl (.cons .refl (.cons .refl (.cons .refl (.cons .refl (.cons .refl (.cons .refl (.cons zI (.cons .refl (.cons .refl (.cons .refl (.cons .refl (.cons .refl zfF))))))))))))))))
 refine Br.mk (fun h3=>?_) (fun h3=>?_)
 ·refine fin (q:={ p with p0:=zp,r:=0,st:=[],sp:=0,t:=kw }) (by rw [j7,if_neg h1,if_neg h2,if_pos h3]) ?_;exact zuI (.cons .refl (.cons .refl (.cons .refl (.cons .refl (.cons .refl (.cons .refl (.cons .refl (.cons .refl (.cons .refl (.cons .refl (.cons zI (.cons .refl (.cons .refl (.cons .refl (.cons .refl (.cons .refl zfF))))))))))))))))
 refine Br.mk (fun h4=>?_) (fun h4=>?_)
 ·refine fin (q:={ p with im:=⟨0,0,[]⟩,sp:=0,sm:=0,t:=kw }) (by rw [j7,if_neg h1,if_neg h2,if_neg h3,if_pos h4]) ?_;exact zuI (.cons .refl (.cons .refl (.cons .refl (.cons .refl (.cons .refl (.cons .refl (.cons .refl (.cons .refl (.cons .refl (.cons .refl (.cons .refl (.cons .refl (.cons .refl (.cons .refl (.cons zI (.cons .refl zfF))))))))))))))))
 ·refine fin (q:={ p with t:=kw }) (by rw [j7,if_neg h1,if_neg h2,if_neg h3,if_neg h4]) ?_;exact zuI (.cons .refl (.cons .refl (.cons .refl (.cons .refl (.cons .refl (.cons .refl (.cons .refl (.cons .refl (.cons .refl (.cons .refl (.cons .refl (.cons .refl (.cons .refl (.cons .refl (.cons .refl (.cons .refl zfF))))))))))))))))
theorem zbM(n:Int):ze Tryz.prog 347 [i64 n] [] (pr (zjK n)) []:=by
 refine zd tok mix Tryz.func347 rfl rfl rfl ?_;refine Br.mk (fun h1=>?_) (fun h1=>zc (fun h=>h1 h.1));exact zu ⟨fun h=>⟨h1,h⟩,fun h=>h.2⟩
theorem uG(n:Int):ze Tryz.prog 365 [i64 n] [] (pr (zjK n)) []:=by
 refine zd tok mix Tryz.func365 rfl rfl rfl ?_;refine Br.mk (fun h1=>?_) (fun h1=>zc (fun h=>h1 h.1));exact zu ⟨fun h=>⟨h1,h⟩,fun h=>h.2⟩
theorem zcV(p:Pnt):ze Tryz.prog 346 [.agg (jW p)] [] (pr (zby p.st/\zjK p.sp)) []:=by
 refine zd tok mix Tryz.func346 rfl rfl rfl ?_;refine zb.t (zpL p.st) ?_;refine Br.mk (fun h1=>?_) (fun h1=>zc (fun h=>h1 h.1));refine zb.t (zbM p.sp) ?_;exact zu ⟨fun h=>⟨h1,h⟩,fun h=>h.2⟩
def yj(p:Pnt):Prop:=p.im.w=0/\p.im.h=0/\p.im.px=[]/\p.sm=0
instance (p:Pnt):Decidable (yj p):=inferInstanceAs (Decidable (_/\_))
def zaY(p:Pnt):Prop:=p.p0=zp/\p.p1=zp/\p.r=0/\p.st=[]
instance (p:Pnt):Decidable (zaY p):=inferInstanceAs (Decidable (_/\_))
def has1(p:Pnt):Prop:=zaY p/\yj p/\p.sp=0/\p.t.same kw
instance (p:Pnt):Decidable (has1 p):=inferInstanceAs (Decidable (_/\_))
def has2(p:Pnt):Prop:=yj p/\p.c=zaX/\p.r=0/\zP p.p0/\zP p.p1/\zby p.st/\zjK p.sp
instance (p:Pnt):Decidable (has2 p):=inferInstanceAs (Decidable (_/\_))
def has3(p:Pnt):Prop:=yj p/\p.c=zaX/\p.p1=zp/\zP p.p0/\1<=p.r/\p.r<=1048576/\zby p.st/\zjK p.sp
instance (p:Pnt):Decidable (has3 p):=inferInstanceAs (Decidable (_/\_))
def has4(p:Pnt):Prop:=zaY p/\p.c=zaX/\zbL p.im/\(p.sp=0∨zjK p.sp)/\(p.sm=1∨p.sm=2)
instance (p:Pnt):Decidable (has4 p):=inferInstanceAs (Decidable (_/\_))
def zh6(p:Pnt):Prop:=(p.k=1/\has1 p)∨(p.k=2/\has2 p)∨(p.k=3/\has3 p)∨(p.k=4/\has4 p)
instance (p:Pnt):Decidable (zh6 p):=inferInstanceAs (Decidable (_∨_))
def yk(p:Pnt):Prop:=p.t.ok/\zh6 p/\(p.k=1∨qH p.t≠0)
instance (p:Pnt):Decidable (yk p):=inferInstanceAs (Decidable (_/\_))
theorem zr7{p:Pnt}(h:p.k=1):(j7 p).same (zuK p.k)↔zaY p/\yj p/\p.sp=0:=by
 rw [j7,if_pos h]
 rcases p with ⟨k,c,p0,p1,r,st,sp,⟨w,hh,px⟩,sm,t⟩
 simp only [Pnt.same,zuK,zaY,yj,Img.mk.injEq];constructor
 ·rintro ⟨_,_,h3,h4,h5,h6,h7,⟨h8,h9,h10⟩,h11,_⟩
  exact ⟨⟨h3,h4,h5,h6⟩,⟨h8,h9,h10,h11⟩,h7⟩
 ·rintro ⟨⟨h3,h4,h5,h6⟩,⟨h8,h9,h10,h11⟩,h7⟩
  exact ⟨trivial,trivial,h3,h4,h5,h6,h7,⟨h8,h9,h10⟩,h11,rfl,rfl,rfl,rfl,rfl,rfl⟩
theorem zr8{p:Pnt}(h:p.k=2):(j7 p).same (zuK p.k)↔yj p/\p.c=zaX/\p.r=0:=by
 rw [j7,if_neg oM,if_pos h]
 rcases p with ⟨k,c,p0,p1,r,st,sp,⟨w,hh,px⟩,sm,t⟩
 simp only [Pnt.same,zuK,yj,Img.mk.injEq];constructor
 ·rintro ⟨_,h2,_,_,h5,_,_,⟨h8,h9,h10⟩,h11,_⟩
  exact ⟨⟨h8,h9,h10,h11⟩,h2,h5⟩
 ·rintro ⟨⟨h8,h9,h10,h11⟩,h2,h5⟩
  exact ⟨trivial,h2,trivial,trivial,h5,trivial,trivial,⟨h8,h9,h10⟩,h11,rfl,rfl,rfl,rfl,rfl,rfl⟩
theorem zr9{p:Pnt}(h:p.k=3):(j7 p).same (zuK p.k)↔yj p/\p.c=zaX/\p.p1=zp:=by
 rw [j7,if_neg oM,if_neg oM,if_pos h]
 rcases p with ⟨k,c,p0,p1,r,st,sp,⟨w,hh,px⟩,sm,t⟩
 simp only [Pnt.same,zuK,yj,Img.mk.injEq];constructor
 ·rintro ⟨_,h2,_,h4,_,_,_,⟨h8,h9,h10⟩,h11,_⟩
  exact ⟨⟨h8,h9,h10,h11⟩,h2,h4⟩
 ·rintro ⟨⟨h8,h9,h10,h11⟩,h2,h4⟩
  exact ⟨trivial,h2,trivial,h4,trivial,trivial,trivial,⟨h8,h9,h10⟩,h11,rfl,rfl,rfl,rfl,rfl,rfl⟩
theorem zsa{p:Pnt}(h:p.k=4):(j7 p).same (zuK p.k)↔zaY p/\p.c=zaX:=by
 rw [j7,if_neg oM,if_neg oM,if_neg oM,if_pos h]
 rcases p with ⟨k,c,p0,p1,r,st,sp,⟨w,hh,px⟩,sm,t⟩
 simp only [Pnt.same,zuK,zaY];constructor
 ·rintro ⟨_,h2,h3,h4,h5,h6,_⟩
  exact ⟨⟨h3,h4,h5,h6⟩,h2⟩
 ·rintro ⟨⟨h3,h4,h5,h6⟩,h2⟩
  exact ⟨trivial,h2,h3,h4,h5,h6,trivial,trivial,trivial,rfl,rfl,rfl,rfl,rfl,rfl⟩
theorem zri(p:Pnt):(j7 p).t=kw:=by
 unfold j7;repeat (first | rfl | split)
theorem qL(n:Nat):kw.le n:=⟨Nat.zero_le _,Nat.zero_le _,Nat.zero_le _,Nat.zero_le _,Nat.zero_le _,Nat.zero_le _⟩
theorem jK(x:Rat):¬zdk x 0=0↔x≠0:=by
 have h1:=zhK (x:=x) (y:=0);have h2:=zlG (x:=x) (y:=0);constructor
 ·rintro h rfl
  exact h (Int.le_antisymm (h2.2 Rat.le_refl) (h1.2 Rat.le_refl))
 ·intro h k;exact h (Rat.le_antisymm (h2.1 oM) (h1.1 oM))
theorem zcW{t:AF}{n:Nat}(h:t.le n):qA (qH t)<=4*n+5:=by
 obtain ⟨ha,hb,hc,hd,_,_⟩:=h;have h1:=zjd (t.a.v*t.d.v) (t.b.v*t.c.v);have h2:=qr t.a.v t.d.v;have h3:=qr t.b.v t.c.v;have h4:=zt t.a;have h5:=zt t.b;have h6:=zt t.c;have h7:=zt t.d;unfold qH;omega
theorem zk2(p:Pnt)(hp:p.t.le 1000)(hl:p.im.px.length<=9223372036854775807):ze Tryz.prog 311 [.agg (jW p)] [] (pr (yk p)) []:=by
 refine zd tok mix Tryz.func311 rfl rfl rfl ?_;have hp7:p.t.le 10000000:=hp.up dC;refine Dr.k ?_;refine zb.t (vP p.t (hp.up dC)) ?_;refine Br.mk (fun h1=>zc (fun k=>h1 k.1)) (fun h1=>?_);have h1:=Decidable.not_not.1 h1;refine zb.t (znn p) ?_;refine zb.t ((zk1 (j7 p) (zuK p.k) (by rw [zri];exact qL _) (qL _)).args (.cons .refl (.cons (zpN p.k) .nil))) ?_
 have only:p.k=1∨p.k=2∨p.k=3∨p.k=4->¬(j7 p).same (zuK p.k)->¬zh6 p:=by
  intro _ h2 k
  rcases k with ⟨e,k⟩ | ⟨e,k⟩ | ⟨e,k⟩ | ⟨e,k⟩
  ·exact h2 ((zr7 e).2 ⟨k.1,k.2.1,k.2.2.1⟩)
  ·exact h2 ((zr8 e).2 ⟨k.1,k.2.1,k.2.2.1⟩)
  ·exact h2 ((zr9 e).2 ⟨k.1,k.2.1,k.2.2.1⟩)
  ·exact h2 ((zsa e).2 ⟨k.1,k.2.1⟩)
 refine Br.mk (fun h2=>zc (fun k=>only (by rcases k.2.1 with h | h | h | h <;> omega) h2 k.2.1)) (fun h2=>?_);have h2:=Decidable.not_not.1 h2;have hcmp:=zcz (ofQ (qH p.t)) zBR (by have:=zcW hp;rw [zo];omega) (Nat.zero_le _);rw [zN,zt3] at hcmp;have det:=hcmp.args (args:=[.agg (brE (ofQ (qH p.t))),.agg [bl false,.val (.slice none 0 0),bl false,.val (.slice none 0 0)]]) (.cons .refl (.cons (zuI qh) .nil));refine Br.mk (fun k1=>?_) (fun k1=>?_)
 ·have hb:=(zr7 k1).1 h2;refine zb.t ((zlI p.t kw hp7 (qL _)).args (.cons .refl (.cons uf .nil))) ?_;refine zu ⟨fun h=>⟨h1,.inl ⟨k1,hb.1,hb.2.1,hb.2.2,h⟩,.inl k1⟩,fun h=>?_⟩
  rcases h.2.1 with ⟨e,k⟩ | ⟨e,_⟩ | ⟨e,_⟩ | ⟨e,_⟩
  ·exact k.2.2.2
  all_goals omega
 refine Br.mk (fun k2=>?_) (fun k2=>?_)
 ·have hb:=(zr8 k2).1 h2
  have get:yk p->has2 p:=fun h=>by
   rcases h.2.1 with ⟨e,_⟩ | ⟨e,k⟩ | ⟨e,_⟩ | ⟨e,_⟩
   ·omega
   ·exact k
   all_goals omega
  refine zb.t (jG p.p0) ?_;refine Br.mk (fun h3=>zc (fun k=>h3 (get k).2.2.2.1)) (fun h3=>?_);refine zb.t (jG p.p1) ?_;refine Br.mk (fun h4=>zc (fun k=>h4 (get k).2.2.2.2.1)) (fun h4=>?_);refine zb.t (zcV p) ?_;refine Br.mk (fun h5=>zc (fun k=>h5 (get k).2.2.2.2.2)) (fun h5=>?_);refine zb.t (zdG p.t hp7) ?_;refine zb.t det ?_;refine zu ((jK _).trans ⟨fun h=>⟨h1,.inr (.inl ⟨k2,hb.1,hb.2.1,hb.2.2,Decidable.not_not.1 h3,Decidable.not_not.1 h4,Decidable.not_not.1 h5⟩),.inr h⟩,fun h=>h.2.2.resolve_left oM⟩)
 refine Br.mk (fun k3=>?_) (fun k3=>?_)
 ·have hb:=(zr9 k3).1 h2
  have get:yk p->has3 p:=fun h=>by
   rcases h.2.1 with ⟨e,_⟩ | ⟨e,_⟩ | ⟨e,k⟩ | ⟨e,_⟩
   ·omega
   ·omega
   ·exact k
   ·omega
  refine zb.t (jG p.p0) ?_;refine Br.mk (fun h3=>zc (fun k=>h3 (get k).2.2.2.1)) (fun h3=>?_);refine Br.mk (fun h4=>zc (fun k=>by have:=(get k).2.2.2.2.1;omega)) (fun h4=>?_);refine Br.mk (fun h5=>zc (fun k=>by have:=(get k).2.2.2.2.2.1;omega)) (fun h5=>?_);refine zb.t (zcV p) ?_;refine Br.mk (fun h6=>zc (fun k=>h6 (get k).2.2.2.2.2.2)) (fun h6=>?_);refine zb.t (zdG p.t hp7) ?_;refine zb.t det ?_
  refine zu ((jK _).trans ⟨fun h=>⟨h1,.inr (.inr (.inl ⟨k3,hb.1,hb.2.1,hb.2.2,Decidable.not_not.1 h3,oM,oM,Decidable.not_not.1 h6⟩)),.inr h⟩,fun h=>h.2.2.resolve_left oM⟩)
 refine Br.mk (fun k4=>?_) (fun k4=>?_)
 ·have hb:=(zsa k4).1 h2
  have get:yk p->has4 p:=fun h=>by
   rcases h.2.1 with ⟨e,_⟩ | ⟨e,_⟩ | ⟨e,_⟩ | ⟨e,k⟩
   ·omega
   ·omega
   ·omega
   ·exact k
  refine zb.t (zgV p.im hl) ?_;refine Br.mk (fun h3=>zc (fun k=>h3 (get k).2.2.1)) (fun h3=>?_);refine Br.mk (fun h4=>?_) (fun h4=>?_)
  ·refine zb.t (zbM p.sp) ?_;refine Br.mk (fun h5=>zc (fun k=>by rcases (get k).2.2.2.1 with h | h;exact h4 h;exact h5 h)) (fun h5=>?_);refine Br.mk (fun h6=>?_) (fun h6=>?_)
   ·refine Br.mk (fun h7=>zc (fun k=>by have:=(get k).2.2.2.2;omega)) (fun h7=>?_);refine zb.t (zdG p.t hp7) ?_;refine zb.t det ?_;refine zu ((jK _).trans ⟨fun h=>⟨h1,.inr (.inr (.inr ⟨k4,hb.1,hb.2,Decidable.not_not.1 h3,.inr (Decidable.not_not.1 h5),oM⟩)),.inr h⟩,fun h=>h.2.2.resolve_left oM⟩)
   ·refine zb.t (zdG p.t hp7) ?_;refine zb.t det ?_;refine zu ((jK _).trans ⟨fun h=>⟨h1,.inr (.inr (.inr ⟨k4,hb.1,hb.2,Decidable.not_not.1 h3,.inr (Decidable.not_not.1 h5),oM⟩)),.inr h⟩,fun h=>h.2.2.resolve_left oM⟩)
  ·refine Br.mk (fun h6=>?_) (fun h6=>?_)
   ·refine Br.mk (fun h7=>zc (fun k=>by have:=(get k).2.2.2.2;omega)) (fun h7=>?_);refine zb.t (zdG p.t hp7) ?_;refine zb.t det ?_;refine zu ((jK _).trans ⟨fun h=>⟨h1,.inr (.inr (.inr ⟨k4,hb.1,hb.2,Decidable.not_not.1 h3,.inl oM,oM⟩)),.inr h⟩,fun h=>h.2.2.resolve_left oM⟩)
   ·refine zb.t (zdG p.t hp7) ?_;refine zb.t det ?_;refine zu ((jK _).trans ⟨fun h=>⟨h1,.inr (.inr (.inr ⟨k4,hb.1,hb.2,Decidable.not_not.1 h3,.inl oM,oM⟩)),.inr h⟩,fun h=>h.2.2.resolve_left oM⟩)
 ·exact zc (fun k=>by rcases k.2.1 with ⟨e,_⟩ | ⟨e,_⟩ | ⟨e,_⟩ | ⟨e,_⟩ <;> omega)
def zfH(mode:Int):Prop:=1<=mode/\mode<=13
instance instB01 (m:Int):Decidable (zfH m):=inferInstanceAs (Decidable (_/\_))
theorem zs6(m:Int):ze Tryz.prog 218 [i64 m] [] (pr (zfH m)) []:=by
 refine zd tok mix Tryz.func218 rfl rfl rfl ?_;refine Br.mk (fun h1=>?_) (fun h1=>zc (fun h=>h1 h.1));exact zu ⟨fun h=>⟨h1,h⟩,fun h=>h.2⟩
theorem zs7(m:Int):ze Tryz.prog 228 [i64 m] [] (pr (zfH m)) []:=by
 refine zd tok mix Tryz.func228 rfl rfl rfl ?_;refine Br.mk (fun h1=>?_) (fun h1=>zc (fun h=>h1 h.1));exact zu ⟨fun h=>⟨h1,h⟩,fun h=>h.2⟩
def zia(ks:List Int):List (Int×SV):=ks.map fun k=>(k,bl true)
theorem znt{n:Int}{A K0:Prop}{F:Int×SV->List (Int×SV)->Prop->Prop}{ks:List Int}(hF:∀k r ih,(n=k->A)->(¬n=k->ih)->F (k,bl true) r ih)(h1:n∈ks->A)(h0:n∉ks->K0):
  List.rec (motive:=fun _=>Prop) K0 F (zia ks):=by
 induction ks with
 | nil=>exact h0 (by simp)
 | cons k r ih=>
  exact hF k (zia r) _ (fun e=>h1 (by rw [e];exact .head _)) fun e=>ih (fun h=>h1 (.tail _ h)) fun h=>h0 fun hm=>by
   cases hm with
   | head=>exact e rfl
   | tail _ h'=>exact h h'
theorem zjQ{n:Int}:∀{ks:List Int} {K:List (Int×SV)->Prop},n∉ks->K (zia (ks++[n]))->znS (zia ks) n (bl true) K
 | [],_,_,k=>k
 | a::r,K,hn,k=>by
  show Br (n=a->K ((n,bl true)::zia r)) (¬n=a->znS (zia r) n (bl true) fun r'=>K ((a,bl true)::r'));exact ⟨fun e=>absurd (e ▸ .head _) hn,fun _=>zjQ (fun h=>hn (.tail _ h)) k⟩
theorem zg4{p:Pix}:(p.r=0/\p.g=0/\p.b=0/\p.a=0/\True)↔p=zaX:=zfD (q:=zaX)
theorem pt_z{p:Pt}:(p.x=0/\p.y=0/\True)↔p=zp:=jd (q:=zp)
theorem zpV(p:Pnt):ze Tryz.prog 361 [.agg (jW p)] [] (pr (zaY p)) []:=by
 refine zd tok mix Tryz.func361 rfl rfl rfl ?_;refine Br.mk (fun h1=>?_) (fun h1=>zc (fun h=>h1 (jd.2 h.1)));refine Br.mk (fun h2=>?_) (fun h2=>zc (fun h=>h2 (jd.2 h.2.1)));refine Br.mk (fun h3=>?_) (fun h3=>zc (fun h=>h3 h.2.2.1));intro hl;exact zu ⟨fun h=>⟨pt_z.1 h1,pt_z.1 h2,h3,List.length_eq_zero_iff.1 oM⟩,fun h=>by rw [h.2.2.2];rfl⟩
theorem zds(p:Pnt):ze Tryz.prog 362 [.agg (jW p)] [] (pr (yj p)) []:=by
 refine zd tok mix Tryz.func362 rfl rfl rfl ?_;refine Br.mk (fun h1=>?_) (fun h1=>zc (fun h=>h1 h.1));refine Br.mk (fun h2=>?_) (fun h2=>zc (fun h=>h2 h.2.1));intro hl;refine Br.mk (fun h3=>?_) (fun h3=>zc (fun h=>h3 (by rw [h.2.2.1];rfl)));exact zu ⟨fun h=>⟨h1,h2,List.length_eq_zero_iff.1 oM,h⟩,fun h=>h.2.2.2⟩
theorem zrr(t:AF)(ht:t.le 10000000):ze Tryz.prog 363 [.agg (afE t)] [] (pr (t.same kw)) []:=by
 refine zd tok mix Tryz.func363 rfl rfl rfl ?_;refine zb.t ((zdn t kw ht (qL _)).args (.cons .refl (.cons uf .nil))) ?_;exact .refl
theorem c_has(p:Pnt)(hp:p.t.le 10000000):ze Tryz.prog 350 [.agg (jW p)] [] (pr (zh6 p)) []:=by
 refine zd tok mix Tryz.func350 rfl rfl rfl ?_;refine Br.mk (fun k1=>?_) (fun k1=>?_)
 ·have get:zh6 p->has1 p:=fun h=>by rcases h with ⟨e,k⟩ | ⟨e,k⟩ | ⟨e,k⟩ | ⟨e,k⟩ <;> first | exact k | omega
  refine zb.t (zpV p) ?_;refine Br.mk (fun h1=>?_) (fun h1=>zc (fun k=>h1 (get k).1));refine zb.t (zds p) ?_;refine Br.mk (fun h2=>?_) (fun h2=>zc (fun k=>h2 (get k).2.1));refine Br.mk (fun h3=>?_) (fun h3=>zc (fun k=>h3 (get k).2.2.1));refine zb.t (zrr p.t hp) ?_;exact zu ⟨fun h=>.inl ⟨k1,h1,h2,h3,h⟩,fun k=>(get k).2.2.2⟩
 refine Br.mk (fun k2=>?_) (fun k2=>?_)
 ·have get:zh6 p->has2 p:=fun h=>by rcases h with ⟨e,k⟩ | ⟨e,k⟩ | ⟨e,k⟩ | ⟨e,k⟩ <;> first | exact k | omega
  refine zb.t (zds p) ?_;refine Br.mk (fun h1=>?_) (fun h1=>zc (fun k=>h1 (get k).1));refine Br.mk (fun h2=>?_) (fun h2=>zc (fun k=>h2 (zg4.2 (get k).2.1)));refine Br.mk (fun h3=>?_) (fun h3=>zc (fun k=>h3 (get k).2.2.1));refine zb.t (yy p.p0) ?_;refine Br.mk (fun h4=>?_) (fun h4=>zc (fun k=>h4 (get k).2.2.2.1));refine zb.t (yy p.p1) ?_;refine Br.mk (fun h5=>?_) (fun h5=>zc (fun k=>h5 (get k).2.2.2.2.1));refine zb.t (zgX p.st) ?_;refine Br.mk (fun h6=>?_) (fun h6=>zc (fun k=>h6 (get k).2.2.2.2.2.1));refine zb.t (uG p.sp) ?_
  exact zu ⟨fun h=>.inr (.inl ⟨k2,h1,zg4.1 h2,h3,h4,h5,h6,h⟩),fun k=>(get k).2.2.2.2.2.2⟩
 refine Br.mk (fun k3=>?_) (fun k3=>?_)
 ·have get:zh6 p->has3 p:=fun h=>by rcases h with ⟨e,k⟩ | ⟨e,k⟩ | ⟨e,k⟩ | ⟨e,k⟩ <;> first | exact k | omega
  refine zb.t (zds p) ?_;refine Br.mk (fun h1=>?_) (fun h1=>zc (fun k=>h1 (get k).1));refine Br.mk (fun h2=>?_) (fun h2=>zc (fun k=>h2 (zg4.2 (get k).2.1)));refine Br.mk (fun h3=>?_) (fun h3=>zc (fun k=>h3 (pt_z.2 (get k).2.2.1)));refine zb.t (yy p.p0) ?_;refine Br.mk (fun h4=>?_) (fun h4=>zc (fun k=>h4 (get k).2.2.2.1));refine Br.mk (fun h5=>?_) (fun h5=>zc (fun k=>h5 (get k).2.2.2.2.1));refine Br.mk (fun h6=>?_) (fun h6=>zc (fun k=>h6 (get k).2.2.2.2.2.1));refine zb.t (zgX p.st) ?_
  refine Br.mk (fun h7=>?_) (fun h7=>zc (fun k=>h7 (get k).2.2.2.2.2.2.1));refine zb.t (uG p.sp) ?_;exact zu ⟨fun h=>.inr (.inr (.inl ⟨k3,h1,zg4.1 h2,pt_z.1 h3,h4,h5,h6,h7,h⟩)),fun k=>(get k).2.2.2.2.2.2.2⟩
 refine Br.mk (fun k4=>?_) (fun k4=>?_)
 ·have get:zh6 p->has4 p:=fun h=>by rcases h with ⟨e,k⟩ | ⟨e,k⟩ | ⟨e,k⟩ | ⟨e,k⟩ <;> first | exact k | omega
  refine zb.t (zpV p) ?_;refine Br.mk (fun h1=>?_) (fun h1=>zc (fun k=>h1 (get k).1));refine Br.mk (fun h2=>?_) (fun h2=>zc (fun k=>h2 (zg4.2 (get k).2.1)));refine zb.t (zfC p.im) ?_;refine Br.mk (fun h3=>?_) (fun h3=>zc (fun k=>h3 (get k).2.2.1));have yes:(p.sp=0∨zjK p.sp)->(p.sm=1∨p.sm=2)->zh6 p:=fun a b=>.inr (.inr (.inr ⟨k4,h1,zg4.1 h2,h3,a,b⟩))
  refine Br.mk (fun h4=>?_) (fun h4=>?_)
  ·refine Br.mk (fun h5=>zH (yes (.inl h4) (.inl h5))) (fun h5=>?_);exact zu ⟨fun h=>yes (.inl h4) (.inr h),fun k=>(get k).2.2.2.2.resolve_left h5⟩
  ·refine zb.t (uG p.sp) ?_;refine Br.mk (fun h6=>?_) (fun h6=>zc (fun k=>by rcases (get k).2.2.2.1 with h | h;exact h4 h;exact h6 h));refine Br.mk (fun h5=>zH (yes (.inr h6) (.inl h5))) (fun h5=>?_);exact zu ⟨fun h=>yes (.inr h6) (.inr h),fun k=>(get k).2.2.2.2.resolve_left h5⟩
 ·exact zc (fun k=>by rcases k with ⟨e,_⟩ | ⟨e,_⟩ | ⟨e,_⟩ | ⟨e,_⟩ <;> omega)
theorem zjU(p:Pnt)(hp:p.t.le 1000):ze Tryz.prog 317 [.agg (jW p)] [] (pr (yk p)) []:=by
 refine zd tok mix Tryz.func317 rfl rfl rfl ?_;refine zb.t (zbq p.t (hp.up dC)) ?_;refine Br.mk (fun h1=>zc (fun k=>h1 k.1)) (fun h1=>?_);have h1:=Decidable.not_not.1 h1;refine zb.t (c_has p (hp.up dC)) ?_;refine Br.mk (fun h2=>zc (fun k=>h2 k.2.1)) (fun h2=>?_);have h2:=Decidable.not_not.1 h2;refine Br.mk (fun h3=>zH ⟨h1,h2,.inl h3⟩) (fun h3=>?_);refine zb.t (zlJ p.t (hp.up dC)) ?_;have hz:=qg 0 dC;refine zb.t hz ?_;have hcmp:=zhO (ofQ (qH p.t)) (ofQ ((0:Int):Rat)) (by have:=zcW hp;rw [zo];omega) (by have:=zpM (n:=0) dC;rw [zo];omega)
 rw [zN,zN] at hcmp;refine zb.t hcmp ?_;refine zu ((jK _).trans ⟨fun h=>⟨h1,h2,.inr h⟩,fun h=>h.2.2.resolve_left h3⟩)
end Go.Gs
