/- Paints that may be. -/
import Derived.Test.YtakicgnbhdpknaaGreatDoorPBE
set_option maxRecDepth 100000
set_option maxHeartbeats 8000000
set_option linter.all false
namespace Go.Gs
open Proofs.Tryz
open Go.Proofs
def vK(p:Pnt):Prop:=p.im.w=0/\p.im.h=0/\p.im.px=[]/\p.sm=0
instance (p:Pnt):Decidable (vK p):=wi
def zeA(p:Pnt):Prop:=p.p0=zp/\p.p1=zp/\p.r=0/\p.st=[]
instance (p:Pnt):Decidable (zeA p):=wi
def has1(p:Pnt):Prop:=zeA p/\vK p/\p.sp=0/\p.t.same qE
instance (p:Pnt):Decidable (has1 p):=wi
def has2(p:Pnt):Prop:=vK p/\p.c=zez/\p.r=0/\zm p.p0/\zm p.p1/\zfk p.st/\zsp p.sp
instance (p:Pnt):Decidable (has2 p):=wi
def has3(p:Pnt):Prop:=vK p/\p.c=zez/\p.p1=zp/\zm p.p0/\1<=p.r/\p.r<=1048576/\zfk p.st/\zsp p.sp
instance (p:Pnt):Decidable (has3 p):=wi
def has4(p:Pnt):Prop:=zeA p/\p.c=zez/\zfM p.im/\(p.sp=0∨zsp p.sp)/\(p.sm=1∨p.sm=2)
instance (p:Pnt):Decidable (has4 p):=wi
def zpU(p:Pnt):Prop:=(p.k=1/\has1 p)∨(p.k=2/\has2 p)∨(p.k=3/\has3 p)∨(p.k=4/\has4 p)
instance (p:Pnt):Decidable (zpU p):=wj
def vL(p:Pnt):Prop:=p.t.ok/\zpU p/\(p.k=1∨zbO p.t≠0)
instance (p:Pnt):Decidable (vL p):=wi
def zFe{p:Pnt}(h:p.k=1):(vm p).same (za2 p.k)↔zeA p/\vK p/\p.sp=0:=by
 rw[vm,Xe h]
 obtain⟨k,c,p0,p1,r,st,sp,⟨w,o,px⟩,sm,t⟩:=p
 simp only[Pnt.same,za2,zeA,vK,Img.mk.injEq];constructor
 .rintro⟨_,_,f,g,i,j,l,⟨m,n,d⟩,e,_⟩
  exact⟨⟨f,g,i,j⟩,⟨m,n,d,e⟩,l⟩
 rintro⟨⟨f,g,i,j⟩,⟨m,n,d,e⟩,l⟩
 exact⟨tV,tV,f,g,i,j,l,⟨m,n,d⟩,e,rfl,rfl,rfl,rfl,rfl,rfl⟩
def zFf{p:Pnt}(h:p.k=2):(vm p).same (za2 p.k)↔vK p/\p.c=zez/\p.r=0:=by
 rw[vm,Xc oM,Xe h]
 obtain⟨k,c,p0,p1,r,st,sp,⟨w,l,px⟩,sm,t⟩:=p
 simp only[Pnt.same,za2,vK,Img.mk.injEq];constructor
 .rintro⟨_,f,_,_,g,_,_,⟨i,j,d⟩,e,_⟩
  exact⟨⟨i,j,d,e⟩,f,g⟩
 rintro⟨⟨i,j,d,e⟩,f,g⟩
 exact⟨tV,f,tV,tV,g,tV,tV,⟨i,j,d⟩,e,rfl,rfl,rfl,rfl,rfl,rfl⟩
def zFg{p:Pnt}(h:p.k=3):(vm p).same (za2 p.k)↔vK p/\p.c=zez/\p.p1=zp:=by
 rw[vm,Xc oM,Xc oM,Xe h]
 obtain⟨k,c,p0,p1,r,st,sp,⟨w,l,px⟩,sm,t⟩:=p
 simp only[Pnt.same,za2,vK,Img.mk.injEq];constructor
 .rintro⟨_,f,_,g,_,_,_,⟨i,j,d⟩,e,_⟩
  exact⟨⟨i,j,d,e⟩,f,g⟩
 rintro⟨⟨i,j,d,e⟩,f,g⟩
 exact⟨tV,f,tV,g,tV,tV,tV,⟨i,j,d⟩,e,rfl,rfl,rfl,rfl,rfl,rfl⟩
def zFh{p:Pnt}(h:p.k=4):(vm p).same (za2 p.k)↔zeA p/\p.c=zez:=by
 rw[vm,Xc oM,Xc oM,Xc oM,Xe h]
 obtain⟨k,c,p0,p1,r,st,sp,⟨w,j,px⟩,sm,t⟩:=p
 simp only[Pnt.same,za2,zeA];constructor
 .rintro⟨_,d,e,f,g,i,_⟩
  exact⟨⟨e,f,g,i⟩,d⟩
 rintro⟨⟨e,f,g,i⟩,d⟩
 exact⟨tV,d,e,f,g,i,tV,tV,tV,rfl,rfl,rfl,rfl,rfl,rfl⟩
def zDX(p:Pnt):(vm p).t=qE:=by
 unfold vm;repeat (first|rfl|split)
def zak(n:Nat):qE.le n:=⟨Xh _,Xh _,Xh _,Xh _,Xh _,Xh _⟩
def uM(x:Rat):¬zlc x 0=0↔x≠0:=by
 have c:=zpc (x:=x) (y:=0);have d:=zvg (x:=x) (y:=0);constructor
 .rintro h rfl
  exact h (JQ (d.2 Rat.le_refl) (c.2 Rat.le_refl))
 intro h k;exact h (Rat.le_antisymm (d.1 oM) (c.1 oM))
def zhD{t:AF}{n:Nat}(h:t.le n):yW (zbO t)<=4*n+5:=by
 obtain⟨m,o,q,s,_,_⟩:=h;have e:=zzJ (t.a.v*t.d.v) (t.b.v*t.c.v);have f:=yK t.a.v t.d.v;have g:=yK t.b.v t.c.v;have i:=zQ t.a;have j:=zQ t.b;have k:=zQ t.c;have l:=zQ t.d;unfold zbO;omega
def zul(p:Pnt)(u:p.t.le 1000)(x:p.im.px.length<=9223372036854775807):CX 337 [wx p] (pr (vL p)):=by
 refine zc func337 ?_;have d:p.t.le 10000000:=u.up dC;refine wc<|wg (zg1 p.t (u.up dC))<|⟨λi=>zd (λk=>i k.1),λi=>?_⟩;have i:=Xa.1 i;refine wg (zx2 p)<|wg ((zuk (vm p) (za2 p.k) (by rw[zDX];exact zak _) (zak _)).args (.C (.cons (zBq p.k) .nil))) ?_
 have only:p.k=1∨p.k=2∨p.k=3∨p.k=4->¬(vm p).same (za2 p.k)->¬zpU p:=by
  intro _ g k
  obtain⟨e,k⟩|⟨e,k⟩|⟨e,k⟩|⟨e,k⟩:=k
  .exact g ((zFe e).2 ⟨k.1,k.2.1,k.2.2.1⟩)
  .exact g ((zFf e).2 ⟨k.1,k.2.1,k.2.2.1⟩)
  .exact g ((zFg e).2 ⟨k.1,k.2.1,k.2.2.1⟩)
  exact g ((zFh e).2 ⟨k.1,k.2.1⟩)
 refine⟨λg=>zd (λk=>only (by rcases k.2.1 with h|h|h|h <;> omega) g k.2.1),λg=>?_⟩;have g:=Xa.1 g;have m:=zjj (ofQ (zbO p.t)) zBR (by have:=zhD u;rw[zF];omega) (Xh _);rw[kw,zBR_v]at m;have det:=m.args (args:=[wm (ofQ (zbO p.t)),.agg [bl false,nS,bl false,nS]]) (.C (.cons (jp yX) .nil));refine⟨λq=>?_,λq=>?_⟩
 .have c:=(zFe q).1 g;refine wg ((zvh p.t qE d (zak _)).args (.C (.cons zcu .nil)))<|zB ⟨λh=>⟨i,.inl ⟨q,c.1,c.2.1,c.2.2,h⟩,.inl q⟩,λh=>?_⟩
  obtain⟨e,k⟩|⟨e,_⟩|⟨e,_⟩|⟨e,_⟩:=h.2.1
  .exact k.2.2.2
  all_goals omega
 refine⟨λv=>?_,λv=>?_⟩
 .have c:=(zFf v).1 g
  have get:vL p->has2 p:=λh=>by
   obtain⟨e,_⟩|⟨e,k⟩|⟨e,_⟩|⟨e,_⟩:=h.2.1
   .omega
   .exact k
   all_goals omega
  refine wg (qa p.p0)<|⟨λf=>zd (λk=>f (get k).2.2.2.1),λf=>?_⟩;refine wg (qa p.p1)<|⟨λl=>zd (λk=>l (get k).2.2.2.2.1),λl=>?_⟩;refine wg (zhC p)<|⟨λj=>zd (λk=>j (get k).2.2.2.2.2),λj=>?_⟩;refine wg (zld p.t d)<|wg det ?_;refine zB ((uM _).trans ⟨λh=>⟨i,.inr (.inl ⟨v,c.1,c.2.1,c.2.2,Xa.1 f,Xa.1 l,Xa.1 j⟩),.inr h⟩,λh=>h.2.2.resolve_left oM⟩)
 refine⟨λw=>?_,λw=>?_⟩
 .have c:=(zFg w).1 g
  have get:vL p->has3 p:=λh=>by
   obtain⟨e,_⟩|⟨e,_⟩|⟨e,k⟩|⟨e,_⟩:=h.2.1
   .omega
   .omega
   .exact k
   omega
  refine wg (qa p.p0)<|⟨λf=>zd (λk=>f (get k).2.2.2.1),λf=>?_⟩;refine⟨λl=>zd (λk=>by have:=(get k).2.2.2.2.1;omega),λl=>?_⟩;refine⟨λj=>zd (λk=>by have:=(get k).2.2.2.2.2.1;omega),λj=>?_⟩;refine wg (zhC p)<|⟨λn=>zd (λk=>n (get k).2.2.2.2.2.2),λn=>?_⟩;refine wg (zld p.t d)<|wg det ?_
  refine zB ((uM _).trans ⟨λh=>⟨i,.inr (.inr (.inl ⟨w,c.1,c.2.1,c.2.2,Xa.1 f,oM,oM,Xa.1 n⟩)),.inr h⟩,λh=>h.2.2.resolve_left oM⟩)
 refine⟨λo=>?_,λo=>?_⟩
 .have c:=(zFh o).1 g
  have get:vL p->has4 p:=λh=>by
   obtain⟨e,_⟩|⟨e,_⟩|⟨e,_⟩|⟨e,k⟩:=h.2.1
   .omega
   .omega
   .omega
   exact k
  refine wg (zn7 p.im x)<|⟨λf=>zd (λk=>f (get k).2.2.1),λf=>?_⟩;refine⟨λl=>?_,λl=>?_⟩
  .refine wg (zfN p.sp)<|⟨λj=>zd (λk=>by rcases(get k).2.2.2.1 with h|h;exact l h;exact j h),λj=>?_⟩;refine⟨λn=>?_,λn=>?_⟩
   .refine⟨λs=>zd (λk=>by have:=(get k).2.2.2.2;omega),λs=>?_⟩;refine wg (zld p.t d)<|wg det ?_;refine zB ((uM _).trans ⟨λh=>⟨i,.inr (.inr (.inr ⟨o,c.1,c.2,Xa.1 f,.inr (Xa.1 j),oM⟩)),.inr h⟩,λh=>h.2.2.resolve_left oM⟩)
   refine wg (zld p.t d)<|wg det ?_;refine zB ((uM _).trans ⟨λh=>⟨i,.inr (.inr (.inr ⟨o,c.1,c.2,Xa.1 f,.inr (Xa.1 j),oM⟩)),.inr h⟩,λh=>h.2.2.resolve_left oM⟩)
  refine⟨λn=>?_,λn=>?_⟩
  .refine⟨λs=>zd (λk=>by have:=(get k).2.2.2.2;omega),λs=>?_⟩;refine wg (zld p.t d)<|wg det ?_;refine zB ((uM _).trans ⟨λh=>⟨i,.inr (.inr (.inr ⟨o,c.1,c.2,Xa.1 f,.inl oM,oM⟩)),.inr h⟩,λh=>h.2.2.resolve_left oM⟩)
  refine wg (zld p.t d)<|wg det ?_;refine zB ((uM _).trans ⟨λh=>⟨i,.inr (.inr (.inr ⟨o,c.1,c.2,Xa.1 f,.inl oM,oM⟩)),.inr h⟩,λh=>h.2.2.resolve_left oM⟩)
 exact zd (λk=>by obtain⟨e,_⟩|⟨e,_⟩|⟨e,_⟩|⟨e,_⟩:=k.2.1 <;> omega)
def mulb{a b A B:Int}(d:0<=a)(e:a<=A)(c:0<=b)(f:b<=B):0<=a*b/\a*b<=A*B:=
 ⟨XI d c,JZ e f c oM⟩
def zl2(mode:Int):Prop:=1<=mode/\mode<=13
instance instB01 (m:Int):Decidable (zl2 m):=wi
structure Rc where
 x0:Int
 y0:Int
 x1:Int
 y1:Int
def rcE(r:Rc):LR:=[i64 r.x0,i64 r.y0,i64 r.x1,i64 r.y1]
def qp:Rc:=⟨0,0,0,0⟩
def zFi{p q:Rc}:(p.x0=q.x0/\p.y0=q.y0/\p.x1=q.x1/\p.y1=q.y1/\True)↔p=q:=by
 obtain⟨a,b,c,d⟩:=p;obtain⟨e,f,g,h⟩:=q;simp
instance instG01:DecidableEq Rc:=λ_ _=>decidable_of_iff _ zFi
def za8(n:Int):Prop:= -4096<=n/\n<=4096
instance instG02 (n:Int):Decidable (za8 n):=wi
def Rc.ok(r:Rc):Prop:=za8 r.x0/\za8 r.y0/\za8 r.x1/\za8 r.y1
instance instG03 (r:Rc):Decidable r.ok:=wi
def Rc.mt(r:Rc):Prop:=¬r.ok∨r.x1<=r.x0∨r.y1<=r.y0
instance instG04 (r:Rc):Decidable r.mt:=wj
def Rc.canon(r:Rc):Rc:=if r.mt then qp else r
def Rc.w(r:Rc):Int:=r.x1-r.x0
def Rc.h(r:Rc):Int:=r.y1-r.y0
def Rc.area(r:Rc):Int:=r.canon.w*r.canon.h
def Rc.meet(a b:Rc):Rc:=if a.mt∨b.mt then qp else Rc.canon ⟨max a.x0 b.x0,max a.y0 b.y0,min a.x1 b.x1,min a.y1 b.y1⟩
def uo:qp.mt:=dC
def Rc.canon_canon(r:Rc):r.canon.canon=r.canon:=by
 unfold Rc.canon
 by_cases h:r.mt
 .rw[Xe h];decide
 rw[Xc h,Xc h]
variable{r:Rc}
def Rc.canon_self(h:r.canon=r):(r=qp)∨(¬r.mt):=by
 unfold Rc.canon at h
 by_cases k:r.mt
 .rw[Xe k]at h;exact .inl h.symm
 exact .inr k
def Rc.notmt(h:¬r.mt):r.ok/\r.x0<r.x1/\r.y0<r.y1:=by
 unfold Rc.mt at h;refine⟨Xa.1 λk=>h (.inl k),?_,?_⟩
 .rcases Qe r.x0 r.x1 with k|k
  .exact k
  exact absurd (.inr (.inl k)) h
 rcases Qe r.y0 r.y1 with k|k
 .exact k
 exact absurd (.inr (.inr k)) h
def Rc.sides(h:r.canon=r):za8 r.x0/\za8 r.y0/\za8 r.x1/\za8 r.y1/\0<=r.w/\r.w<=8192/\0<=r.h/\r.h<=8192/\(r.w=0↔r.h=0):=by
 unfold Rc.w Rc.h
 rcases Rc.canon_self h with rfl|k
 .decide
 obtain⟨⟨⟨a,b⟩,⟨c,d⟩,⟨e,f⟩,g,i⟩,j,k⟩:=Rc.notmt k;unfold za8;omega
def uN{p q:Rc}(h:p=q):LE (.agg (rcE p)) (.agg (rcE q)):=by subst h;exact .refl
def Rc.canon_pos(h:r.mt):r.canon=qp:=Xe h
def Rc.canon_neg(h:¬r.mt):r.canon=r:=Xc h
def Rc.canon_R(r:Rc):za8 r.canon.x0/\za8 r.canon.y0/\za8 r.canon.x1/\za8 r.canon.y1/\0<=r.canon.x1-r.canon.x0/\r.canon.x1-r.canon.x0<=8192/\0<=r.canon.y1-r.canon.y0/\r.canon.y1-r.canon.y0<=8192:=by
 obtain⟨a,b,c,d,e,f,g,h,_⟩:=Rc.sides r.canon_canon;exact⟨a,b,c,d,e,f,g,h⟩
def Rc.meet_canon(a b:Rc):Rc.canon ⟨max a.canon.x0 b.canon.x0,max a.canon.y0 b.canon.y0,min a.canon.x1 b.canon.x1,min a.canon.y1 b.canon.y1⟩=a.meet b:=by
 unfold Rc.meet;have c:qp.x0=0/\qp.y0=0/\qp.x1=0/\qp.y1=0:=⟨rfl,rfl,rfl,rfl⟩
 by_cases d:a.mt
 .rw[Xe (.inl d),Rc.canon_pos d,Rc.canon_pos]
  right;left;dsimp only;rw[c.1,c.2.2.1];omega
 by_cases e:b.mt
 .rw[Xe (.inr e),Rc.canon_pos e,Rc.canon_pos]
  right;left;dsimp only;rw[c.1,c.2.2.1];omega
 rw[Xc (λh=>h.elim d e),Rc.canon_neg d,Rc.canon_neg e]
def zvV(n:Int):CX 97 [i64 n] (pr (za8 n)):=by
 refine zc func97<|Br.mk (λc=>?_) (λc=>zd (λh=>c h.1));exact zB ⟨λh=>⟨c,h⟩,λh=>h.2⟩
def zDY(r:Rc):CX 59 [.agg (rcE r)] (pr r.ok):=by
 refine zc func59<|wg (zvV r.x0)<|⟨λc=>?_,λc=>zd (λh=>c h.1)⟩;refine wg (zvV r.y0)<|⟨λd=>?_,λd=>zd (λh=>d h.2.1)⟩;refine wg (zvV r.x1)<|⟨λe=>?_,λe=>zd (λh=>e h.2.2.1)⟩;exact wg (zvV r.y1)<|zB ⟨λh=>⟨c,d,e,h⟩,λh=>h.2.2.2⟩
def zdi(r:Rc):CX 34 [.agg (rcE r)] (pr r.mt):=by
 refine zc func34<|wg (zDY r)<|⟨λc=>zH (.inl c),λc=>?_⟩;refine⟨λd=>zH (.inr (.inl d)),λd=>?_⟩;exact zB ⟨λh=>.inr (.inr h),λh=>by rcases h with h|h|h;exact absurd h c;exact absurd h d;exact h⟩
def zfl(r:Rc):CX 58 [.agg (rcE r)] (.agg (rcE r.canon)):=by
 refine zc func58<|wg (zdi r) ?_;refine⟨λc=>uN (Rc.canon_pos c).symm,λc=>uN (Rc.canon_neg c).symm⟩
def zl3(r:Rc):CX 60 [.agg (rcE r)] (i64 r.area):=by
 obtain⟨a,b,c,d,e,f,g,h⟩:=r.canon_R;unfold za8 at a b c d;have i:=mulb e f g h;refine zc func60<|wg (zfl r) ?_;(iterate 3 refine wa ?_);exact .refl
def zj5(n:Int):CX 103 [i64 n] (pr (za8 n)):=by
 refine zc func103<|Br.mk (λc=>?_) (λc=>zd (λh=>c h.1));exact zB ⟨λh=>⟨c,h⟩,λh=>h.2⟩
def zDZ(r:Rc):CX 68 [.agg (rcE r)] (pr r.ok):=by
 refine zc func68<|wg (zj5 r.x0)<|⟨λc=>?_,λc=>zd (λh=>c h.1)⟩;refine wg (zj5 r.y0)<|⟨λd=>?_,λd=>zd (λh=>d h.2.1)⟩;refine wg (zj5 r.x1)<|⟨λe=>?_,λe=>zd (λh=>e h.2.2.1)⟩;exact wg (zj5 r.y1)<|zB ⟨λh=>⟨c,d,e,h⟩,λh=>h.2.2.2⟩
def zfm(r:Rc):CX 38 [.agg (rcE r)] (pr r.mt):=by
 refine zc func38<|wg (zDZ r)<|⟨λc=>zH (.inl c),λc=>?_⟩;refine⟨λd=>zH (.inr (.inl d)),λd=>?_⟩;exact zB ⟨λh=>.inr (.inr h),λh=>by rcases h with h|h|h;exact absurd h c;exact absurd h d;exact h⟩
def zpV(r:Rc):CX 69 [.agg (rcE r)] (.agg (rcE r.canon)):=by
 refine zc func69<|wg (zfm r) ?_;refine⟨λc=>uN (Rc.canon_pos c).symm,λc=>uN (Rc.canon_neg c).symm⟩
def zpW(a b:Rc):CX 65 [.agg (rcE a),.agg (rcE b)] (.agg (rcE (a.meet b))):=by
 refine zc func65<|wd<|wg (zfl a)<|wg (zfl b)<|wh<|wg (zfl ⟨max a.canon.x0 b.canon.x0,max a.canon.y0 b.canon.y0,min a.canon.x1 b.canon.x1,min a.canon.y1 b.canon.y1⟩) ?_;exact uN (Rc.meet_canon a b)
def zGQ(a b:Rc):CX 39 [.agg (rcE a),.agg (rcE b)] (.agg (rcE (a.meet b))):=by
 refine zc func39<|wg (zfm a)<|⟨λc=>uN (p:=qp) (by unfold Rc.meet;rw[Xe (.inl c)]),λc=>?_⟩;refine wg (zfm b)<|⟨λd=>uN (p:=qp) (by unfold Rc.meet;rw[Xe (.inr d)]),λd=>?_⟩;exact wg (zpV ⟨max a.x0 b.x0,max a.y0 b.y0,min a.x1 b.x1,min a.y1 b.y1⟩)<|uN (by unfold Rc.meet;rw[Xc (λh=>h.elim c d)])
def zGR(m:Int):CX 188 [i64 m] (pr (zl2 m)):=by
 refine zc func188<|Br.mk (λc=>?_) (λc=>zd (λh=>c h.1));exact zB ⟨λh=>⟨c,h⟩,λh=>h.2⟩
def zGS(m:Int):CX 138 [i64 m] (pr (zl2 m)):=by
 refine zc func138<|Br.mk (λc=>?_) (λc=>zd (λh=>c h.1));exact zB ⟨λh=>⟨c,h⟩,λh=>h.2⟩
def zp0(ks:LV):List (Int×SV):=ks.map λk=>(k,bl true)
def zya{n:Int}{A K0:Prop}{F:Int×SV->List (Int×SV)->Prop->Prop}{ks:LV}(hF:∀k r c,(n=k->A)->(¬n=k->c)->F (k,bl true) r c)(f:n∈ks->A)(d:n∉ks->K0):
  List.rec (motive:=λ_=>Prop) K0 F (zp0 ks):=by
 induction ks with
 |nil=>exact d sI
 |cons k r c=>
  exact hF k (zp0 r) _ (λe=>f (by rw[e];exact .head _)) λe=>c (λh=>f (.tail _ h)) λh=>d λi=>by
   cases i with
   |head=>exact e rfl
   |tail _ g=>exact h g
def zsu{n:Int}:∀{ks:LV} {K:List (Int×SV)->Prop},n∉ks->K (zp0 (ks++[n]))->zyS (zp0 ks) n (bl true) K
 |[],_,_,k=>k
 |a::r,K,c,k=>by
  show Br (n=a->K ((n,bl true)::zp0 r)) (¬n=a->zyS (zp0 r) n (bl true) λd=>K ((a,bl true)::d));exact⟨λe=>absurd (e ▸ .head _) c,λ_=>zsu (λh=>c (.tail _ h)) k⟩
def zoh{p:Pix}:(p.r=0/\p.g=0/\p.b=0/\p.a=0/\True)↔p=zez:=zl0 (q:=zez)
variable{p:Pt}
def pt_z:(p.x=0/\p.y=0/\True)↔p=zp:=qm (q:=zp)
def zBD(p:Pnt):CX 396 [wx p] (pr (zeA p)):=by
 refine zc func396<|Br.mk (λc=>?_) (λc=>zd (λh=>c (qm.2 h.1)));refine⟨λd=>?_,λd=>zd (λh=>d (qm.2 h.2.1))⟩;refine⟨λe=>?_,λe=>zd (λh=>e h.2.2.1)⟩;intro f;exact zB ⟨λh=>⟨pt_z.1 c,pt_z.1 d,e,XP.1 oM⟩,λh=>by rw[h.2.2.2];rfl⟩
def ziR(p:Pnt):CX 397 [wx p] (pr (vK p)):=by
 refine zc func397<|Br.mk (λc=>?_) (λc=>zd (λh=>c h.1));refine⟨λd=>?_,λd=>zd (λh=>d h.2.1)⟩;intro f;refine⟨λe=>?_,λe=>zd (λh=>e (by rw[h.2.2.1];rfl))⟩;exact zB ⟨λh=>⟨c,d,XP.1 oM,h⟩,λh=>h.2.2.2⟩
def zD9(t:AF)(ht:t.le 10000000):CX 398 [wo t] (pr (t.same qE)):=by
 exact zc func398<|wg ((zw9 t qE ht (zak _)).args (.C (.cons zcu .nil)))<|.refl
def c_has(p:Pnt)(s:p.t.le 10000000):CX 342 [wx p] (pr (zpU p)):=by
 refine zc func342<|Br.mk (λm=>?_) (λm=>?_)
 .have get:zpU p->has1 p:=λh=>by obtain⟨e,k⟩|⟨e,k⟩|⟨e,k⟩|⟨e,k⟩:=h <;> first|exact k|omega
  refine wg (zBD p)<|⟨λc=>?_,λc=>zd (λk=>c (get k).1)⟩;refine wg (ziR p)<|⟨λd=>?_,λd=>zd (λk=>d (get k).2.1)⟩;refine⟨λf=>?_,λf=>zd (λk=>f (get k).2.2.1)⟩;exact wg (zD9 p.t s)<|zB ⟨λh=>.inl ⟨m,c,d,f,h⟩,λk=>(get k).2.2.2⟩
 refine⟨λn=>?_,λn=>?_⟩
 .have get:zpU p->has2 p:=λh=>by obtain⟨e,k⟩|⟨e,k⟩|⟨e,k⟩|⟨e,k⟩:=h <;> first|exact k|omega
  refine wg (ziR p)<|⟨λc=>?_,λc=>zd (λk=>c (get k).1)⟩;refine⟨λd=>?_,λd=>zd (λk=>d (zoh.2 (get k).2.1))⟩;refine⟨λf=>?_,λf=>zd (λk=>f (get k).2.2.1)⟩;refine wg (ki p.p0)<|⟨λi=>?_,λi=>zd (λk=>i (get k).2.2.2.1)⟩;refine wg (ki p.p1)<|⟨λg=>?_,λg=>zd (λk=>g (get k).2.2.2.2.1)⟩;refine wg (zn9 p.st)<|⟨λj=>?_,λj=>zd (λk=>j (get k).2.2.2.2.2.1)⟩;refine wg (zbK p.sp) ?_
  exact zB ⟨λh=>.inr (.inl ⟨n,c,zoh.1 d,f,i,g,j,h⟩),λk=>(get k).2.2.2.2.2.2⟩
 refine⟨λo=>?_,λo=>?_⟩
 .have get:zpU p->has3 p:=λh=>by obtain⟨e,k⟩|⟨e,k⟩|⟨e,k⟩|⟨e,k⟩:=h <;> first|exact k|omega
  refine wg (ziR p)<|⟨λc=>?_,λc=>zd (λk=>c (get k).1)⟩;refine⟨λd=>?_,λd=>zd (λk=>d (zoh.2 (get k).2.1))⟩;refine⟨λf=>?_,λf=>zd (λk=>f (pt_z.2 (get k).2.2.1))⟩;refine wg (ki p.p0)<|⟨λi=>?_,λi=>zd (λk=>i (get k).2.2.2.1)⟩;refine⟨λg=>?_,λg=>zd (λk=>g (get k).2.2.2.2.1)⟩;refine⟨λj=>?_,λj=>zd (λk=>j (get k).2.2.2.2.2.1)⟩;refine wg (zn9 p.st) ?_
  refine⟨λl=>?_,λl=>zd (λk=>l (get k).2.2.2.2.2.2.1)⟩;exact wg (zbK p.sp)<|zB ⟨λh=>.inr (.inr (.inl ⟨o,c,zoh.1 d,pt_z.1 f,i,g,j,l,h⟩)),λk=>(get k).2.2.2.2.2.2.2⟩
 refine⟨λq=>?_,λq=>?_⟩
 .have get:zpU p->has4 p:=λh=>by obtain⟨e,k⟩|⟨e,k⟩|⟨e,k⟩|⟨e,k⟩:=h <;> first|exact k|omega
  refine wg (zBD p)<|⟨λc=>?_,λc=>zd (λk=>c (get k).1)⟩;refine⟨λd=>?_,λd=>zd (λk=>d (zoh.2 (get k).2.1))⟩;refine wg (zlZ p.im)<|⟨λf=>?_,λf=>zd (λk=>f (get k).2.2.1)⟩;have yes:(p.sp=0∨zsp p.sp)->(p.sm=1∨p.sm=2)->zpU p:=λa b=>.inr (.inr (.inr ⟨q,c,zoh.1 d,f,a,b⟩))
  refine⟨λi=>?_,λi=>?_⟩
  .refine⟨λg=>zH (yes (.inl i) (.inl g)),λg=>?_⟩;exact zB ⟨λh=>yes (.inl i) (.inr h),λk=>(get k).2.2.2.2.resolve_left g⟩
  refine wg (zbK p.sp)<|⟨λj=>?_,λj=>zd (λk=>by rcases(get k).2.2.2.1 with h|h;exact i h;exact j h)⟩;refine⟨λg=>zH (yes (.inr j) (.inl g)),λg=>?_⟩;exact zB ⟨λh=>yes (.inr j) (.inr h),λk=>(get k).2.2.2.2.resolve_left g⟩
 exact zd (λk=>by obtain⟨e,_⟩|⟨e,_⟩|⟨e,_⟩|⟨e,_⟩:=k <;> omega)
def zsx(p:Pnt)(f:p.t.le 1000):CX 280 [wx p] (pr (vL p)):=by
 refine zc func280<|wg (zct p.t (f.up dC))<|⟨λd=>zd (λk=>d k.1),λd=>?_⟩;have d:=Xa.1 d;refine wg (c_has p (f.up dC))<|⟨λe=>zd (λk=>e k.2.1),λe=>?_⟩;have e:=Xa.1 e;refine⟨λg=>zH ⟨d,e,.inl g⟩,λg=>?_⟩;refine wg (zvi p.t (f.up dC)) ?_;have i:=yE 0 dC;refine wg i ?_;have c:=zzR (ofQ (zbO p.t)) (ofQ ((0:Int):Rat)) (by have:=zhD f;rw[zF];omega) (by have:=zBp (n:=0) dC;rw[zF];omega);rw[kw,kw]at c
 refine wg c ?_;refine zB ((uM _).trans ⟨λh=>⟨d,e,.inr h⟩,λh=>h.2.2.resolve_left g⟩)
def orP(a b p:Pt):Int:=wdg (zac b a) (zac p a)
def uR(a b p:Pt):Int:=if a.y<=p.y/\p.y<b.y/\0<orP a b p then 1 else if b.y<=p.y/\p.y<a.y/\0<orP b a p then-1 else 0
def zjz(a b p:Pt): -1<=uR a b p/\uR a b p<=1:=by
 unfold uR;split
 .omega
 split <;> omega
def uS(r:LU)(p:Pt)(n:Nat):Int:=((List.range n).map λi=>uR (r.getD i zp) (r.getD ((i+1)%r.length) zp) p).sum
def zds(r:LU)(p:Pt)(n:Nat):uS r p (n+1)=uS r p n+uR (r.getD n zp) (r.getD ((n+1)%r.length) zp) p:=by
 unfold uS;rw[KC,XA,QT];simp
def zeJ(r:LU)(p:Pt)(n:Nat): -(n:Int)<=uS r p n/\uS r p n<=n:=by
 induction n with
 |zero=>exact⟨by simp[uS],by simp[uS]⟩
 |succ n c=>
  have:=zjz (r.getD n zp) (r.getD ((n+1)%r.length) zp) p;rw[zds];omega
def zor{r:LU}{i:Nat}{x y:Pt}(d:r[i]?=some x)(c:r[(((i:Int)+1)%(r.length:Int)).toNat]?=some y)(h:i<r.length):uS r p (i+1)=uS r p i+uR x y p:=by
 rw[zjV h,XT]at c;rw[zds,Xr,Xr,d,c];rfl
def zbN(rs:LQ)(p:Pt)(n:Nat):Int:=((List.range n).map λi=>uS (rs.getD i []) p (rs.getD i []).length).sum
def zdt{rs:LQ}{n:Nat}{r:LU}(h:rs[n]?=some r):zbN rs p (n+1)=zbN rs p n+uS r p r.length:=by
 unfold zbN;rw[KC,XA,QT];simp[Xr,h]
def zb4(rs:LQ)(p:Pt):∀n,n<=rs.length-> -(qe (rs.take n):Int)<=zbN rs p n/\zbN rs p n<=qe (rs.take n)
 |0,_=>⟨by simp[zbN],by simp[zbN]⟩
 |n+1,h=>by
  have d:=zb4 rs p n oM;obtain⟨r,c⟩:∃r,rs[n]?=some r:=⟨_,Xb oM⟩;have:=zeJ r p r.length;rw[zdt c,vi c];omega
def zhO(rs:LQ)(p:Pt):Int:=if kB rs/\zm p then zbN rs p rs.length else 0
def zsQ(rs:LQ)(p:Pt): -4096<=zhO rs p/\zhO rs p<=4096:=by
 unfold zhO;split
 .rename_i h;have c:=zb4 rs p rs.length (Xj _);have d:=zas rs rs.length;have e:=h.1.1;omega
 omega
def zce(n rule:Int):Prop:=rule=1/\n≠0∨rule=2/\n%2≠0
instance (n rule:Int):Decidable (zce n rule):=wj
def yi(rs:LQ)(rule:Int)(p:Pt):Prop:=zce (zhO rs p) rule
instance (rs:LQ) (rule:Int) (p:Pt):Decidable (yi rs rule p):=inferInstanceAs (Decidable (zce _ _))
def zhP(a b:Pt):zfF (zac a b):=zcy (ju _) (ju _)
def zB5(p q:Pt)(c:zfF p)(d:zfF q):CX 167 [wk p,wk q] (i64 (wdg p q)):=by
 have h:=zlp c d;refine zc func167 ?_;(iterate 3 refine wa ?_);exact .refl
def zB6(a b p:Pt):CX 114 [wk a,wk b,wk p] (i64 (sgn (orP a b p))):=by
 refine zc func114<|wc<|wg (zz0 b a)<|wg (zz0 p a)<|wg (zB5 (zac b a) (zac p a) (zhP _ _) (zhP _ _))<|wg (zph (orP a b p) (-1) 1) ?_;exact ze (zxb _)
def zHa(n:Int):CX 322 [i64 n] (i64 (sgn n)):=by
 refine zc func322<|Br.mk (λh=>ze (by unfold sgn;rw[Xe h])) (λh=>?_);refine⟨λk=>ze (by unfold sgn;rw[Xc h,Xe k]),λk=>ze (by unfold sgn;rw[Xc h,Xc k])⟩
def zp8(a b p:Pt):CX 257 [wk a,wk b,wk p] (i64 (sgn (orP a b p))):=by
 refine zc func257<|wc<|wg (znr b a)<|wg (znr p a)<|wg (zry (zac b a) (zac p a) (zhP _ _) (zhP _ _))<|wg (zHa (orP a b p)) ?_;exact .refl
def zhQ{n:Int}:0<sgn n↔0<n:=by unfold sgn;split <;> (try split) <;> omega
variable{a:Pt}{b:Pt}
def zwe(c:a.y<=p.y)(d:p.y<b.y)(e:0<sgn (orP a b p)):uR a b p=1:=Xe ⟨c,d,zhQ.1 e⟩
def zka(c:¬(a.y<=p.y/\p.y<b.y/\0<sgn (orP a b p)))(d:b.y<=p.y)(e:p.y<a.y)(f:0<sgn (orP b a p)):uR a b p= -1:=by
 unfold uR;rw[Xc (λh=>c ⟨h.1,h.2.1,zhQ.2 h.2.2⟩),Xe ⟨d,e,zhQ.1 f⟩]
def zwf(c:¬(a.y<=p.y/\p.y<b.y/\0<sgn (orP a b p)))(d:¬(b.y<=p.y/\p.y<a.y/\0<sgn (orP b a p))):uR a b p=0:=by
 unfold uR;rw[Xc (λh=>c ⟨h.1,h.2.1,zhQ.2 h.2.2⟩),Xc (λh=>d ⟨h.1,h.2.1,zhQ.2 h.2.2⟩)]
def zHb(a b p:Pt):CX 179 [wk a,wk b,wk p] (i64 (uR a b p)):=by
 refine zc func179 ?_;have sec:¬(a.y<=p.y/\p.y<b.y/\0<sgn (orP a b p))->¬(b.y<=p.y/\p.y<a.y/\0<sgn (orP b a p))->LE (i64 0) (i64 (uR a b p)):=λh k=>ze (zwf h k).symm
 refine⟨λg=>?_,λg=>?_⟩
 .refine⟨λi=>?_,λi=>?_⟩
  .refine wg (zp8 a b p)<|⟨λj=>ze (zwe g i j).symm,λj=>?_⟩;have c:¬(a.y<=p.y/\p.y<b.y/\0<sgn (orP a b p)):=λh=>j h.2.2
   refine⟨λd=>?_,λd=>sec c λh=>d h.1⟩;refine⟨λe=>?_,λe=>sec c λh=>e h.2.1⟩;exact wg (zp8 b a p)<|⟨λf=>ze (zka c d e f).symm,λf=>sec c λh=>f h.2.2⟩
  have c:¬(a.y<=p.y/\p.y<b.y/\0<sgn (orP a b p)):=λh=>i h.2.1
  refine⟨λd=>?_,λd=>sec c λh=>d h.1⟩;refine⟨λe=>?_,λe=>sec c λh=>e h.2.1⟩;exact wg (zp8 b a p)<|⟨λf=>ze (zka c d e f).symm,λf=>sec c λh=>f h.2.2⟩
 have c:¬(a.y<=p.y/\p.y<b.y/\0<sgn (orP a b p)):=λh=>g h.1
 refine⟨λd=>?_,λd=>sec c λh=>d h.1⟩;refine⟨λe=>?_,λe=>sec c λh=>e h.2.1⟩;exact wg (zp8 b a p)<|⟨λf=>ze (zka c d e f).symm,λf=>sec c λh=>f h.2.2⟩
abbrev wr(x:Rc):SV:=.agg (rcE x)
end Go.Gs
