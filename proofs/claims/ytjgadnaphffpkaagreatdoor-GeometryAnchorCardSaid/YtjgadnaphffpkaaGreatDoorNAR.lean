/- Paints that may be. -/
import Derived.Test.YtjgadnaphffpkaaGreatDoorNA
import Derived.Test.YtjgadnaphffpkaaGreatDoorNAQ
import Derived.Test.YtjgadnaphffpkaaGreatDoorNAK
import Derived.Test.YtjgadnaphffpkaaGreatDoorNAI
set_option maxRecDepth 100000
set_option maxHeartbeats 8000000
set_option linter.all false
namespace Go.Gs
open Go.Proofs
def vD(p:Pnt):Prop:=p.im.w=0/\p.im.h=0/\p.im.px=[]/\p.sm=0
instance (p:Pnt):Decidable (vD p):=inferInstanceAs (Decidable (_/\_))
def zd4(p:Pnt):Prop:=p.p0=zp/\p.p1=zp/\p.r=0/\p.st=[]
instance (p:Pnt):Decidable (zd4 p):=inferInstanceAs (Decidable (_/\_))
def has1(p:Pnt):Prop:=zd4 p/\vD p/\p.sp=0/\p.t.same qr
instance (p:Pnt):Decidable (has1 p):=inferInstanceAs (Decidable (_/\_))
def has2(p:Pnt):Prop:=vD p/\p.c=zd3/\p.r=0/\zn p.p0/\zn p.p1/\zeH p.st/\zqE p.sp
instance (p:Pnt):Decidable (has2 p):=inferInstanceAs (Decidable (_/\_))
def has3(p:Pnt):Prop:=vD p/\p.c=zd3/\p.p1=zp/\zn p.p0/\1<=p.r/\p.r<=1048576/\zeH p.st/\zqE p.sp
instance (p:Pnt):Decidable (has3 p):=inferInstanceAs (Decidable (_/\_))
def has4(p:Pnt):Prop:=zd4 p/\p.c=zd3/\ze4 p.im/\(p.sp=0∨zqE p.sp)/\(p.sm=1∨p.sm=2)
instance (p:Pnt):Decidable (has4 p):=inferInstanceAs (Decidable (_/\_))
def zog(p:Pnt):Prop:=(p.k=1/\has1 p)∨(p.k=2/\has2 p)∨(p.k=3/\has3 p)∨(p.k=4/\has4 p)
instance (p:Pnt):Decidable (zog p):=inferInstanceAs (Decidable (_∨_))
def vE(p:Pnt):Prop:=p.t.ok/\zog p/\(p.k=1∨yz p.t≠0)
instance (p:Pnt):Decidable (vE p):=inferInstanceAs (Decidable (_/\_))
variable{p:Pnt}
theorem zBr(h:p.k=1):(vn p).same (zbj p.k)↔zd4 p/\vD p/\p.sp=0:=by
 rw[vn,if_pos h]
 rcases p with⟨k,c,p0,p1,r,st,sp,⟨w,hh,px⟩,sm,t⟩
 simp only[Pnt.same,zbj,zd4,vD,Img.mk.injEq];constructor
 ·rintro⟨_,_,h3,h4,h5,h6,h7,⟨h8,h9,h10⟩,h11,_⟩
  exact⟨⟨h3,h4,h5,h6⟩,⟨h8,h9,h10,h11⟩,h7⟩
 ·rintro⟨⟨h3,h4,h5,h6⟩,⟨h8,h9,h10,h11⟩,h7⟩
  exact⟨trivial,trivial,h3,h4,h5,h6,h7,⟨h8,h9,h10⟩,h11,rfl,rfl,rfl,rfl,rfl,rfl⟩
theorem zBs(h:p.k=2):(vn p).same (zbj p.k)↔vD p/\p.c=zd3/\p.r=0:=by
 rw[vn,if_neg oM,if_pos h]
 rcases p with⟨k,c,p0,p1,r,st,sp,⟨w,hh,px⟩,sm,t⟩
 simp only[Pnt.same,zbj,vD,Img.mk.injEq];constructor
 ·rintro⟨_,h2,_,_,h5,_,_,⟨h8,h9,h10⟩,h11,_⟩
  exact⟨⟨h8,h9,h10,h11⟩,h2,h5⟩
 ·rintro⟨⟨h8,h9,h10,h11⟩,h2,h5⟩
  exact⟨trivial,h2,trivial,trivial,h5,trivial,trivial,⟨h8,h9,h10⟩,h11,rfl,rfl,rfl,rfl,rfl,rfl⟩
theorem zBt(h:p.k=3):(vn p).same (zbj p.k)↔vD p/\p.c=zd3/\p.p1=zp:=by
 rw[vn,if_neg oM,if_neg oM,if_pos h]
 rcases p with⟨k,c,p0,p1,r,st,sp,⟨w,hh,px⟩,sm,t⟩
 simp only[Pnt.same,zbj,vD,Img.mk.injEq];constructor
 ·rintro⟨_,h2,_,h4,_,_,_,⟨h8,h9,h10⟩,h11,_⟩
  exact⟨⟨h8,h9,h10,h11⟩,h2,h4⟩
 ·rintro⟨⟨h8,h9,h10,h11⟩,h2,h4⟩
  exact⟨trivial,h2,trivial,h4,trivial,trivial,trivial,⟨h8,h9,h10⟩,h11,rfl,rfl,rfl,rfl,rfl,rfl⟩
theorem zBu(h:p.k=4):(vn p).same (zbj p.k)↔zd4 p/\p.c=zd3:=by
 rw[vn,if_neg oM,if_neg oM,if_neg oM,if_pos h]
 rcases p with⟨k,c,p0,p1,r,st,sp,⟨w,hh,px⟩,sm,t⟩
 simp only[Pnt.same,zbj,zd4];constructor
 ·rintro⟨_,h2,h3,h4,h5,h6,_⟩
  exact⟨⟨h3,h4,h5,h6⟩,h2⟩
 ·rintro⟨⟨h3,h4,h5,h6⟩,h2⟩
  exact⟨trivial,h2,h3,h4,h5,h6,trivial,trivial,trivial,rfl,rfl,rfl,rfl,rfl,rfl⟩
theorem zAx(p:Pnt):(vn p).t=qr:=by
 unfold vn;repeat (first | rfl | split)
theorem yD(n:Nat):qr.le n:=⟨Xe _,Xe _,Xe _,Xe _,Xe _,Xe _⟩
theorem uT(x:Rat):¬zhi x 0=0↔x≠0:=by
 have h1:=znz (x:=x) (y:=0);have h2:=zs3 (x:=x) (y:=0);constructor
 ·rintro h rfl
  exact h (Int.le_antisymm (h2.2 Rat.le_refl) (h1.2 Rat.le_refl))
 ·intro h k;exact h (Rat.le_antisymm (h2.1 oM) (h1.1 oM))
theorem zgR{t:AF}{n:Nat}(h:t.le n):ya (yz t)<=4*n+5:=by
 obtain⟨ha,hb,hc,hd,_,_⟩:=h;have h1:=zps (t.a.v*t.d.v) (t.b.v*t.c.v);have h2:=yj t.a.v t.d.v;have h3:=yj t.b.v t.c.v;have h4:=zH t.a;have h5:=zH t.b;have h6:=zH t.c;have h7:=zH t.d;unfold yz;omega
theorem zsh(p:Pnt)(hp:p.t.le 1000)(hl:p.im.px.length<=9223372036854775807):CG0 380 [.agg (vf p)] [] (pr (vE p)) []:=by
 refine zc Tryz.func380 ?_;have hp7:p.t.le 10000000:=hp.up dC;refine Dr.k<|zb.t (zcD p.t (hp.up dC))<|⟨λh1=>zd (λk=>h1 k.1),λh1=>?_⟩;have h1:=Xa.1 h1;refine zb.t (zvz p)<|zb.t ((zsg (vn p) (zbj p.k) (by rw[zAx];exact yD _) (yD _)).args (.cons .refl (.cons (zyB p.k) .nil))) ?_
 have only:p.k=1∨p.k=2∨p.k=3∨p.k=4->¬(vn p).same (zbj p.k)->¬zog p:=by
  intro _ h2 k
  rcases k with⟨e,k⟩ | ⟨e,k⟩ | ⟨e,k⟩ | ⟨e,k⟩
  ·exact h2 ((zBr e).2 ⟨k.1,k.2.1,k.2.2.1⟩)
  ·exact h2 ((zBs e).2 ⟨k.1,k.2.1,k.2.2.1⟩)
  ·exact h2 ((zBt e).2 ⟨k.1,k.2.1,k.2.2.1⟩)
  ·exact h2 ((zBu e).2 ⟨k.1,k.2.1⟩)
 refine⟨λh2=>zd (λk=>only (by rcases k.2.1 with h | h | h | h <;> omega) h2 k.2.1),λh2=>?_⟩;have h2:=Xa.1 h2;have hcmp:=zgc (ofQ (yz p.t)) zBR (by have:=zgR hp;rw[zB];omega) (Xe _);rw[z6,zBR_v]at hcmp;have det:=hcmp.args (args:=[.agg (brE (ofQ (yz p.t))),.agg [bl false,.val (.slice none 0 0),bl false,.val (.slice none 0 0)]]) (.cons .refl (.cons (qF jU) .nil));refine⟨λk1=>?_,λk1=>?_⟩
 ·have hb:=(zBr k1).1 h2;refine zb.t ((zs5 p.t qr hp7 (yD _)).args (.cons .refl (.cons zaP .nil)))<|zF ⟨λh=>⟨h1,.inl ⟨k1,hb.1,hb.2.1,hb.2.2,h⟩,.inl k1⟩,λh=>?_⟩
  rcases h.2.1 with⟨e,k⟩ | ⟨e,_⟩ | ⟨e,_⟩ | ⟨e,_⟩
  ·exact k.2.2.2
  all_goals omega
 refine⟨λk2=>?_,λk2=>?_⟩
 ·have hb:=(zBs k2).1 h2
  have get:vE p->has2 p:=λh=>by
   rcases h.2.1 with⟨e,_⟩ | ⟨e,k⟩ | ⟨e,_⟩ | ⟨e,_⟩
   ·omega
   ·exact k
   all_goals omega
  refine zb.t (qh p.p0)<|⟨λh3=>zd (λk=>h3 (get k).2.2.2.1),λh3=>?_⟩;refine zb.t (qh p.p1)<|⟨λh4=>zd (λk=>h4 (get k).2.2.2.2.1),λh4=>?_⟩;refine zb.t (zgQ p)<|⟨λh5=>zd (λk=>h5 (get k).2.2.2.2.2),λh5=>?_⟩;refine zb.t (zh4 p.t hp7)<|zb.t det ?_;refine zF ((uT _).trans ⟨λh=>⟨h1,.inr (.inl ⟨k2,hb.1,hb.2.1,hb.2.2,Xa.1 h3,Xa.1 h4,Xa.1 h5⟩),.inr h⟩,λh=>h.2.2.resolve_left oM⟩)
 refine⟨λk3=>?_,λk3=>?_⟩
 ·have hb:=(zBt k3).1 h2
  have get:vE p->has3 p:=λh=>by
   rcases h.2.1 with⟨e,_⟩ | ⟨e,_⟩ | ⟨e,k⟩ | ⟨e,_⟩
   ·omega
   ·omega
   ·exact k
   ·omega
  refine zb.t (qh p.p0)<|⟨λh3=>zd (λk=>h3 (get k).2.2.2.1),λh3=>?_⟩;refine⟨λh4=>zd (λk=>by have:=(get k).2.2.2.2.1;omega),λh4=>?_⟩;refine⟨λh5=>zd (λk=>by have:=(get k).2.2.2.2.2.1;omega),λh5=>?_⟩;refine zb.t (zgQ p)<|⟨λh6=>zd (λk=>h6 (get k).2.2.2.2.2.2),λh6=>?_⟩;refine zb.t (zh4 p.t hp7)<|zb.t det ?_
  refine zF ((uT _).trans ⟨λh=>⟨h1,.inr (.inr (.inl ⟨k3,hb.1,hb.2.1,hb.2.2,Xa.1 h3,oM,oM,Xa.1 h6⟩)),.inr h⟩,λh=>h.2.2.resolve_left oM⟩)
 refine⟨λk4=>?_,λk4=>?_⟩
 ·have hb:=(zBu k4).1 h2
  have get:vE p->has4 p:=λh=>by
   rcases h.2.1 with⟨e,_⟩ | ⟨e,_⟩ | ⟨e,_⟩ | ⟨e,k⟩
   ·omega
   ·omega
   ·omega
   ·exact k
  refine zb.t (zmG p.im hl)<|⟨λh3=>zd (λk=>h3 (get k).2.2.1),λh3=>?_⟩;refine⟨λh4=>?_,λh4=>?_⟩
  ·refine zb.t (ze5 p.sp)<|⟨λh5=>zd (λk=>by rcases(get k).2.2.2.1 with h | h;exact h4 h;exact h5 h),λh5=>?_⟩;refine⟨λh6=>?_,λh6=>?_⟩
   ·refine⟨λh7=>zd (λk=>by have:=(get k).2.2.2.2;omega),λh7=>?_⟩;refine zb.t (zh4 p.t hp7)<|zb.t det ?_;refine zF ((uT _).trans ⟨λh=>⟨h1,.inr (.inr (.inr ⟨k4,hb.1,hb.2,Xa.1 h3,.inr (Xa.1 h5),oM⟩)),.inr h⟩,λh=>h.2.2.resolve_left oM⟩)
   ·refine zb.t (zh4 p.t hp7)<|zb.t det ?_;refine zF ((uT _).trans ⟨λh=>⟨h1,.inr (.inr (.inr ⟨k4,hb.1,hb.2,Xa.1 h3,.inr (Xa.1 h5),oM⟩)),.inr h⟩,λh=>h.2.2.resolve_left oM⟩)
  ·refine⟨λh6=>?_,λh6=>?_⟩
   ·refine⟨λh7=>zd (λk=>by have:=(get k).2.2.2.2;omega),λh7=>?_⟩;refine zb.t (zh4 p.t hp7)<|zb.t det ?_;refine zF ((uT _).trans ⟨λh=>⟨h1,.inr (.inr (.inr ⟨k4,hb.1,hb.2,Xa.1 h3,.inl oM,oM⟩)),.inr h⟩,λh=>h.2.2.resolve_left oM⟩)
   ·refine zb.t (zh4 p.t hp7)<|zb.t det ?_;refine zF ((uT _).trans ⟨λh=>⟨h1,.inr (.inr (.inr ⟨k4,hb.1,hb.2,Xa.1 h3,.inl oM,oM⟩)),.inr h⟩,λh=>h.2.2.resolve_left oM⟩)
 ·exact zd (λk=>by rcases k.2.1 with⟨e,_⟩ | ⟨e,_⟩ | ⟨e,_⟩ | ⟨e,_⟩ <;> omega)
def zkQ(mode:Int):Prop:=1<=mode/\mode<=13
instance instB01 (m:Int):Decidable (zkQ m):=inferInstanceAs (Decidable (_/\_))
theorem zCT(m:Int):CG0 264 [i64 m] [] (pr (zkQ m)) []:=by
 refine zc Tryz.func264 ?_;refine⟨λh1=>?_,λh1=>zd (λh=>h1 h.1)⟩;exact zF ⟨λh=>⟨h1,h⟩,λh=>h.2⟩
theorem zCU(m:Int):CG0 297 [i64 m] [] (pr (zkQ m)) []:=by
 refine zc Tryz.func297 ?_;refine⟨λh1=>?_,λh1=>zd (λh=>h1 h.1)⟩;exact zF ⟨λh=>⟨h1,h⟩,λh=>h.2⟩
def zok(ks:List Int):List (Int×SV):=ks.map λk=>(k,bl true)
theorem zvH{n:Int}{A K0:Prop}{F:Int×SV->List (Int×SV)->Prop->Prop}{ks:List Int}(hF:∀k r ih,(n=k->A)->(¬n=k->ih)->F (k,bl true) r ih)(h1:n∈ks->A)(h0:n∉ks->K0):
  List.rec (motive:=λ_=>Prop) K0 F (zok ks):=by
 induction ks with
 | nil=>exact h0 (by simp)
 | cons k r ih=>
  exact hF k (zok r) _ (λe=>h1 (by rw[e];exact .head _)) λe=>ih (λh=>h1 (.tail _ h)) λh=>h0 λhm=>by
   cases hm with
   | head=>exact e rfl
   | tail _ h'=>exact h h'
theorem zqK{n:Int}:∀{ks:List Int} {K:List (Int×SV)->Prop},n∉ks->K (zok (ks++[n]))->zwa (zok ks) n (bl true) K
 | [],_,_,k=>k
 | a::r,K,hn,k=>by
  show Br (n=a->K ((n,bl true)::zok r)) (¬n=a->zwa (zok r) n (bl true) λr'=>K ((a,bl true)::r'));exact⟨λe=>absurd (e ▸ .head _) hn,λ_=>zqK (λh=>hn (.tail _ h)) k⟩
theorem zmP{p:Pix}:(p.r=0/\p.g=0/\p.b=0/\p.a=0/\True)↔p=zd3:=zkM (q:=zd3)
theorem pt_z{p:Pt}:(p.x=0/\p.y=0/\True)↔p=zp:=k9 (q:=zp)
theorem zyK(p:Pnt):CG0 414 [.agg (vf p)] [] (pr (zd4 p)) []:=by
 refine zc Tryz.func414 ?_;refine⟨λh1=>?_,λh1=>zd (λh=>h1 (k9.2 h.1))⟩;refine⟨λh2=>?_,λh2=>zd (λh=>h2 (k9.2 h.2.1))⟩;refine⟨λh3=>?_,λh3=>zd (λh=>h3 h.2.2.1)⟩;intro hl;exact zF ⟨λh=>⟨pt_z.1 h1,pt_z.1 h2,h3,XJ.1 oM⟩,λh=>by rw[h.2.2.2];rfl⟩
theorem zhN(p:Pnt):CG0 415 [.agg (vf p)] [] (pr (vD p)) []:=by
 refine zc Tryz.func415 ?_;refine⟨λh1=>?_,λh1=>zd (λh=>h1 h.1)⟩;refine⟨λh2=>?_,λh2=>zd (λh=>h2 h.2.1)⟩;intro hl;refine⟨λh3=>?_,λh3=>zd (λh=>h3 (by rw[h.2.2.1];rfl))⟩;exact zF ⟨λh=>⟨h1,h2,XJ.1 oM,h⟩,λh=>h.2.2.2⟩
theorem zAG(t:AF)(ht:t.le 10000000):CG0 416 [.agg (afE t)] [] (pr (t.same qr)) []:=by
 refine zc Tryz.func416 ?_;exact zb.t ((zlZ t qr ht (yD _)).args (.cons .refl (.cons zaP .nil)))<|.refl
theorem c_has(p:Pnt)(hp:p.t.le 10000000):CG0 404 [.agg (vf p)] [] (pr (zog p)) []:=by
 refine zc Tryz.func404 ?_;refine⟨λk1=>?_,λk1=>?_⟩
 ·have get:zog p->has1 p:=λh=>by rcases h with⟨e,k⟩ | ⟨e,k⟩ | ⟨e,k⟩ | ⟨e,k⟩ <;> first | exact k | omega
  refine zb.t (zyK p)<|⟨λh1=>?_,λh1=>zd (λk=>h1 (get k).1)⟩;refine zb.t (zhN p)<|⟨λh2=>?_,λh2=>zd (λk=>h2 (get k).2.1)⟩;refine⟨λh3=>?_,λh3=>zd (λk=>h3 (get k).2.2.1)⟩;exact zb.t (zAG p.t hp)<|zF ⟨λh=>.inl ⟨k1,h1,h2,h3,h⟩,λk=>(get k).2.2.2⟩
 refine⟨λk2=>?_,λk2=>?_⟩
 ·have get:zog p->has2 p:=λh=>by rcases h with⟨e,k⟩ | ⟨e,k⟩ | ⟨e,k⟩ | ⟨e,k⟩ <;> first | exact k | omega
  refine zb.t (zhN p)<|⟨λh1=>?_,λh1=>zd (λk=>h1 (get k).1)⟩;refine⟨λh2=>?_,λh2=>zd (λk=>h2 (zmP.2 (get k).2.1))⟩;refine⟨λh3=>?_,λh3=>zd (λk=>h3 (get k).2.2.1)⟩;refine zb.t (kK p.p0)<|⟨λh4=>?_,λh4=>zd (λk=>h4 (get k).2.2.2.1)⟩;refine zb.t (kK p.p1)<|⟨λh5=>?_,λh5=>zd (λk=>h5 (get k).2.2.2.2.1)⟩;refine zb.t (zmI p.st)<|⟨λh6=>?_,λh6=>zd (λk=>h6 (get k).2.2.2.2.2.1)⟩;refine zb.t (zbk p.sp) ?_
  exact zF ⟨λh=>.inr (.inl ⟨k2,h1,zmP.1 h2,h3,h4,h5,h6,h⟩),λk=>(get k).2.2.2.2.2.2⟩
 refine⟨λk3=>?_,λk3=>?_⟩
 ·have get:zog p->has3 p:=λh=>by rcases h with⟨e,k⟩ | ⟨e,k⟩ | ⟨e,k⟩ | ⟨e,k⟩ <;> first | exact k | omega
  refine zb.t (zhN p)<|⟨λh1=>?_,λh1=>zd (λk=>h1 (get k).1)⟩;refine⟨λh2=>?_,λh2=>zd (λk=>h2 (zmP.2 (get k).2.1))⟩;refine⟨λh3=>?_,λh3=>zd (λk=>h3 (pt_z.2 (get k).2.2.1))⟩;refine zb.t (kK p.p0)<|⟨λh4=>?_,λh4=>zd (λk=>h4 (get k).2.2.2.1)⟩;refine⟨λh5=>?_,λh5=>zd (λk=>h5 (get k).2.2.2.2.1)⟩;refine⟨λh6=>?_,λh6=>zd (λk=>h6 (get k).2.2.2.2.2.1)⟩;refine zb.t (zmI p.st) ?_
  refine⟨λh7=>?_,λh7=>zd (λk=>h7 (get k).2.2.2.2.2.2.1)⟩;exact zb.t (zbk p.sp)<|zF ⟨λh=>.inr (.inr (.inl ⟨k3,h1,zmP.1 h2,pt_z.1 h3,h4,h5,h6,h7,h⟩)),λk=>(get k).2.2.2.2.2.2.2⟩
 refine⟨λk4=>?_,λk4=>?_⟩
 ·have get:zog p->has4 p:=λh=>by rcases h with⟨e,k⟩ | ⟨e,k⟩ | ⟨e,k⟩ | ⟨e,k⟩ <;> first | exact k | omega
  refine zb.t (zyK p)<|⟨λh1=>?_,λh1=>zd (λk=>h1 (get k).1)⟩;refine⟨λh2=>?_,λh2=>zd (λk=>h2 (zmP.2 (get k).2.1))⟩;refine zb.t (zkL p.im)<|⟨λh3=>?_,λh3=>zd (λk=>h3 (get k).2.2.1)⟩;have yes:(p.sp=0∨zqE p.sp)->(p.sm=1∨p.sm=2)->zog p:=λa b=>.inr (.inr (.inr ⟨k4,h1,zmP.1 h2,h3,a,b⟩))
  refine⟨λh4=>?_,λh4=>?_⟩
  ·refine⟨λh5=>zR (yes (.inl h4) (.inl h5)),λh5=>?_⟩;exact zF ⟨λh=>yes (.inl h4) (.inr h),λk=>(get k).2.2.2.2.resolve_left h5⟩
  ·refine zb.t (zbk p.sp)<|⟨λh6=>?_,λh6=>zd (λk=>by rcases(get k).2.2.2.1 with h | h;exact h4 h;exact h6 h)⟩;refine⟨λh5=>zR (yes (.inr h6) (.inl h5)),λh5=>?_⟩;exact zF ⟨λh=>yes (.inr h6) (.inr h),λk=>(get k).2.2.2.2.resolve_left h5⟩
 ·exact zd (λk=>by rcases k with⟨e,_⟩ | ⟨e,_⟩ | ⟨e,_⟩ | ⟨e,_⟩ <;> omega)
theorem zqO(p:Pnt)(hp:p.t.le 1000):CG0 384 [.agg (vf p)] [] (pr (vE p)) []:=by
 refine zc Tryz.func384 ?_;refine zb.t (zb3 p.t (hp.up dC))<|⟨λh1=>zd (λk=>h1 k.1),λh1=>?_⟩;have h1:=Xa.1 h1;refine zb.t (c_has p (hp.up dC))<|⟨λh2=>zd (λk=>h2 k.2.1),λh2=>?_⟩;have h2:=Xa.1 h2;refine⟨λh3=>zR ⟨h1,h2,.inl h3⟩,λh3=>?_⟩;refine zb.t (zs6 p.t (hp.up dC)) ?_;have hz:=jm 0 dC;refine zb.t hz ?_;have hcmp:=znC (ofQ (yz p.t)) (ofQ ((0:Int):Rat)) (by have:=zgR hp;rw[zB];omega) (by have:=zyA (n:=0) dC;rw[zB];omega);rw[z6,z6]at hcmp
 refine zb.t hcmp ?_;refine zF ((uT _).trans ⟨λh=>⟨h1,h2,.inr h⟩,λh=>h.2.2.resolve_left h3⟩)
end Go.Gs
