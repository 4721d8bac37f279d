/- Pictures that may be, the other text; pictures that are the same; texels. -/
import Derived.Test.YtplllpkdmehklaaGreatDoorMA
import Derived.Test.YtplllpkdmehklaaGreatDoorMBO
import Derived.Test.YtplllpkdmehklaaGreatDoorMAY
import Derived.Test.YtplllpkdmehklaaGreatDoorMAT
import Derived.Test.YtplllpkdmehklaaGreatDoorMAR
set_option maxRecDepth 100000
set_option maxHeartbeats 8000000
set_option linter.all false
namespace Go.Gs
open Go.Proofs
theorem zBZ(w h:Int):zd Tryz.prog 188 [i64 w,i64 h] [] (pr ((1<=w/\w<=4096)/\(1<=h/\h<=4096)/\w*h<=65536)) []:=by
 refine zc tok mix Tryz.func188 rfl rfl rfl ?_;refine Br.mk (fun h1=>?_) (fun h1=>ze oM);refine Br.mk (fun h2=>?_) (fun h2=>ze oM);refine Br.mk (fun h3=>?_) (fun h3=>ze oM);refine Br.mk (fun h4=>?_) (fun h4=>ze oM);have hm:=zxC (show 0<=w by omega) h2 (show 0<=h by omega) h4;refine Ar.o ?_;exact zF ⟨fun h=>⟨⟨h1,h2⟩,⟨h3,h4⟩,h⟩,fun h=>h.2.2⟩
theorem zum(p:Pix):zd Tryz.prog 189 [.agg (zdt p)] [] (pr (zeV p)) []:=by
 refine zc tok mix Tryz.func189 rfl rfl rfl ?_;refine Br.mk (fun h1=>?_) (fun h1=>ze (fun h=>h1 h.1));refine Br.mk (fun h2=>?_) (fun h2=>ze (fun h=>h2 h.2.1));exact zF ⟨fun h=>⟨h1,h2,h⟩,fun h=>h.2.2⟩
theorem zjC(m:Img):zd Tryz.prog 137 [.agg (zjB m)] [] (pr (zeu m)) []:=by
 refine zc tok mix Tryz.func137 rfl rfl rfl ?_;refine zb.t (zBZ m.w m.h) ?_;refine Br.mk (fun h1=>ze (fun h=>h1 ⟨h.1,h.2.1,h.2.2.1⟩)) (fun h1=>?_);have h1:=Decidable.not_not.1 h1;have hm:=zxC (show 0<=m.w by omega) h1.1.2 (show 0<=m.h by omega) h1.2.1.2;intro hl0;refine Ar.o ?_;refine Br.mk (fun h4=>ze (fun h=>h4 h.2.2.2.1)) (fun h4=>?_);have h4:=Decidable.not_not.1 h4
 refine ⟨Int,fun i=>⟨[(3,i64 i),(1,.loc 0 0)],[(0,.box 49 (zjB m))],1,35,0⟩,fun i=>0<=i/\i<=m.px.length/\∀(j:Nat) q,(j:Int) < i->m.px[j]? =some q->zeV q,fun i=>((m.px.length:Int) - i).toNat,0,?_,?_,?_⟩
 ·exact ⟨oM,oM,fun j q hj=>by omega⟩
 ·exact zf [(0,some 0)]
 rintro i ⟨g1,g2,g3⟩
 intro hl1;refine Br.mk (fun g4=>?_) (fun g4=>?_)
 ·refine Ob.o ?_;intro x hx;refine zb.t (zum x) ?_;refine Br.mk (fun g5=>?_) (fun g5=>?_)
  ·exact ze fun h=>g5 (h.2.2.2.2 x (List.mem_of_getElem? hx))
  ·refine Ar.o ?_;refine ⟨i+1,⟨oM,oM,fun j q hj hq=>?_⟩,zf [(0,some 0)],by dsimp only;omega⟩
   by_cases e:j=i.toNat
   ·subst e;rw [hx] at hq;cases hq;exact Decidable.not_not.1 g5
   ·exact g3 j q oM hq
 ·refine zP ⟨h1.1,h1.2.1,h1.2.2,h4,fun p hp=>?_⟩;obtain ⟨j,hj,he⟩:=List.getElem_of_mem hp;exact g3 j p oM (by rw [← he];exact List.getElem?_eq_getElem hj)
theorem zjD{p q:Pix}:(p.r=q.r/\p.g=q.g/\p.b=q.b/\p.a=q.a/\True)↔p=q:=by
 cases p;cases q;simp
theorem zzP{xs ys:List Pix}{i:Int}(hl:(xs.length:Int)=ys.length)(hi:¬i < xs.length)(h:∀j:Nat,(j:Int) < i->xs[j]? =ys[j]?):xs=ys:=by
 refine List.ext_getElem? fun j=>?_
 by_cases hj:(j:Int) < i
 ·exact h j hj
 ·rw [List.getElem?_eq_none oM,List.getElem?_eq_none oM]
theorem zzQ(xs ys:List Pix):zd Tryz.prog 298 [.sl zdt xs,.sl zdt ys] [] (pr (xs=ys)) []:=by
 refine zc tok mix Tryz.func298 rfl rfl rfl ?_;intro hl1 hl2;refine Br.mk (fun h1=>ze fun e=>h1 (by rw [e])) (fun h1=>?_);have h1:=Decidable.not_not.1 h1;intro hl3;refine ⟨Int,fun i=>⟨[(13,i64 i),(12,i64 xs.length),(0,.sl zdt xs),(1,.sl zdt ys)],[],0,26,0⟩,fun i=>0<=i/\i<=xs.length/\∀j:Nat,(j:Int) < i->xs[j]? =ys[j]?,fun i=>((xs.length:Int) - i).toNat,0,?_,?_,?_⟩
 ·exact ⟨oM,oM,fun j hj=>by omega⟩
 ·exact zf []
 rintro i ⟨h4,h5,h6⟩
 refine Br.mk (fun h7=>?_) (fun h7=>?_)
 ·refine Dr.k ?_;refine Ob.o ?_;intro x hx;refine Ob.o ?_;intro y hy;refine Br.mk (fun h8=>?_) (fun h8=>?_)
  ·refine ze fun e=>h8 (zjD.2 ?_)
   subst e;rw [hx] at hy;exact Option.some.inj hy
  ·refine Ar.o ?_;refine ⟨i+1,⟨oM,oM,fun j hj=>?_⟩,zf [],by dsimp only;omega⟩
   by_cases e:j=i.toNat
   ·subst e;rw [hx,hy,zjD.1 (Decidable.not_not.1 h8)]
   ·exact h6 j oM
 ·exact zP (zzP h1 h7 h6)
theorem zlw(m n:Img):zd Tryz.prog 262 [.agg (zjB m),.agg (zjB n)] [] (pr (m=n)) []:=by
 refine zc tok mix Tryz.func262 rfl rfl rfl ?_;refine Br.mk (fun h1=>?_) (fun h1=>ze fun e=>h1 (by rw [e]));refine Br.mk (fun h2=>?_) (fun h2=>ze fun e=>h2 (by rw [e]));refine zb.t (zzQ m.px n.px) ?_;refine zF ⟨fun h=>?_,fun h=>by rw [h]⟩
 cases m;cases n;simp_all
def zdu:Pix:=⟨0,0,0,0⟩
structure zgI where
 o:Int
 c:Pix
 deriving DecidableEq
def zcy(s:zgI):List SV:=[i64 s.o,u8 s.c.r,u8 s.c.g,u8 s.c.b,u8 s.c.a]
theorem zsv{p q:zgI}:(p.o=q.o/\p.c.r=q.c.r/\p.c.g=q.c.g/\p.c.b=q.c.b/\p.c.a=q.c.a/\True)↔p=q:=by
 rcases p with ⟨a,b,c,d,e⟩;rcases q with ⟨a',b',c',d',e'⟩;simp
def zpc:Int->List zgI->Prop
 | _,[]=>True
 | lo,s::l=>(lo<=s.o/\s.o<=65536)/\zpc s.o l
instance upDec:∀lo l,Decidable (zpc lo l)
 | _,[]=>isTrue trivial
 | _,s::l=>haveI:=upDec s.o l;inferInstanceAs (Decidable (_/\_))
def zea(l:List zgI):Prop:=(1<=(l.length:Int)/\(l.length:Int)<=16)/\zpc 0 l
instance (l:List zgI):Decidable (zea l):=inferInstanceAs (Decidable (_/\_))
theorem zxD(l:List zgI):zd Tryz.prog 345 [.sl zcy l] [] (pr (zea l)) []:=by
 refine zc tok mix Tryz.func345 rfl rfl rfl ?_;intro hl1;refine Br.mk (fun h=>ze (fun k=>by have:=k.1.1;omega)) (fun h2=>?_);intro hl2;refine Br.mk (fun h=>ze (fun k=>by have:=k.1.2;omega)) (fun h3=>?_);intro hl4;refine ⟨Int×Int,fun ⟨i,at_⟩=>⟨[(3,i64 at_),(14,.sl zcy l),(15,i64 l.length),(16,i64 i)],[],0,32,0⟩,fun (i,at_)=>0<=i/\i<=l.length/\(zpc 0 l↔zpc at_ (l.drop i.toNat)),fun (i,_)=>((l.length:Int) - i).toNat,(0,0),?_,?_,?_⟩
 ·exact ⟨oM,oM,Iff.rfl⟩
 ·exact zf []
 rintro ⟨i,at_⟩ ⟨g1,g2,g3⟩
 refine Br.mk (fun h5=>?_) (fun h5=>?_)
 ·refine Ob.o ?_;intro x hx
  have hd:l.drop i.toNat=x::l.drop (i.toNat+1):=by
   obtain ⟨hi,he⟩:=List.getElem?_eq_some_iff.1 hx;rw [List.drop_eq_getElem_cons hi,he]
  rw [hd] at g3;refine Br.mk (fun h6=>ze (fun k=>by have:=(g3.1 k.2).1;omega)) (fun h6=>?_);refine Br.mk (fun h7=>ze (fun k=>by have:=(g3.1 k.2).1;omega)) (fun h7=>?_);refine Ar.o ?_;refine ⟨(i+1,x.o),⟨oM,oM,?_⟩,zf [],by dsimp only;omega⟩;rw [g3,show (i+1).toNat=i.toNat+1 by omega];exact ⟨fun k=>k.2,fun k=>⟨oM,k⟩⟩
 ·refine zP ⟨oM,g3.2 ?_⟩;rw [List.drop_eq_nil_of_le oM];trivial
theorem zlx(l:List zgI):zd Tryz.prog 315 [.sl zcy l] [] (pr (zea l)) []:=by
 refine zc tok mix Tryz.func315 rfl rfl rfl ?_;refine ⟨Int×Int,fun ⟨i,_⟩=>⟨[(0,.sl zcy l),(3,i64 i)],[],0,50,0⟩,fun (i,at_)=>0<=i/\i<=l.length/\(i=0->at_=0)/\(0 < i->0<=at_/\∃y,l[(i - 1).toNat]? =some y/\y.o=at_)/\(zpc 0 l↔zpc at_ (l.drop i.toNat)),fun (i,_)=>((l.length:Int) - i).toNat,(0,0),?_,?_,?_⟩
 ·exact ⟨oM,oM,fun _=>rfl,fun h=>by omega,Iff.rfl⟩
 ·exact zf []
 rintro ⟨i,at_⟩ ⟨g1,g2,g4,g5,g3⟩
 intro hl1;refine Br.mk (fun h5=>?_) (fun h5=>?_)
 ·refine Dr.k ?_;refine Ob.o ?_;intro x hx
  have hd:l.drop i.toNat=x::l.drop (i.toNat+1):=by
   obtain ⟨hi,he⟩:=List.getElem?_eq_some_iff.1 hx;rw [List.drop_eq_getElem_cons hi,he]
  rw [hd] at g3
  have hat:0<=at_:=by
   by_cases h0:0 < i
   ·exact (g5 h0).1
   ·have:=g4 oM;omega
  refine Br.mk (fun h6=>ze (fun k=>by have:=(g3.1 k.2).1;omega)) (fun h6=>?_);refine Ob.o ?_;intro x' hx';rw [hx] at hx';cases hx'
  refine Br.mk (fun h7=>ze (fun k=>by have:=(g3.1 k.2).1;omega)) (fun h7=>?_);refine Br.mk (fun h8=>?_) (fun h8=>?_)
  ·obtain ⟨_,y,hy,hyo⟩:=g5 h8;refine Ob.o ?_;intro x' hx';rw [hx] at hx';cases hx'
   refine Ar.o ?_;refine Ob.o ?_;intro y' hy';rw [hy] at hy';cases hy'
   refine Br.mk (fun h9=>ze (fun k=>by have:=(g3.1 k.2).1;omega)) (fun h9=>?_);refine Ar.o ?_;refine ⟨(i+1,x.o),⟨oM,oM,fun h=>by omega,fun _=>⟨oM,x,by rw [show (i+1 - 1).toNat=i.toNat by omega];exact hx,rfl⟩,?_⟩,zf [],by dsimp only;omega⟩;rw [g3,show (i+1).toNat=i.toNat+1 by omega];exact ⟨fun k=>k.2,fun k=>⟨oM,k⟩⟩
  ·refine Ar.o ?_;have:=g4 oM;refine ⟨(i+1,x.o),⟨oM,oM,fun h=>by omega,fun _=>⟨oM,x,by rw [show (i+1 - 1).toNat=i.toNat by omega];exact hx,rfl⟩,?_⟩,zf [],by dsimp only;omega⟩;rw [g3,show (i+1).toNat=i.toNat+1 by omega];exact ⟨fun k=>k.2,fun k=>⟨oM,k⟩⟩
 ·have hall:zpc 0 l:=g3.2 (by rw [List.drop_eq_nil_of_le oM];trivial);intro hl2;refine Br.mk (fun h6=>?_) (fun h6=>?_)
  ·intro hl3;exact zF ⟨fun k=>⟨⟨oM,k⟩,hall⟩,fun k=>k.1.2⟩
  ·exact ze fun k=>h6 k.1.1
theorem zqV{xs ys:List zgI}{i:Int}(hl:(xs.length:Int)=ys.length)(hi:¬i < xs.length)(h:∀j:Nat,(j:Int) < i->xs[j]? =ys[j]?):xs=ys:=by
 refine List.ext_getElem? fun j=>?_
 by_cases hj:(j:Int) < i
 ·exact h j hj
 ·rw [List.getElem?_eq_none oM,List.getElem?_eq_none oM]
theorem zzR(xs ys:List zgI):zd Tryz.prog 344 [.sl zcy xs,.sl zcy ys] [] (pr (xs=ys)) []:=by
 refine zc tok mix Tryz.func344 rfl rfl rfl ?_;intro hl1 hl2;refine Br.mk (fun h1=>ze fun e=>h1 (by rw [e])) (fun h1=>?_);have h1:=Decidable.not_not.1 h1;intro hl3;refine ⟨Int,fun i=>⟨[(13,i64 i),(12,i64 xs.length),(0,.sl zcy xs),(1,.sl zcy ys)],[],0,26,0⟩,fun i=>0<=i/\i<=xs.length/\∀j:Nat,(j:Int) < i->xs[j]? =ys[j]?,fun i=>((xs.length:Int) - i).toNat,0,?_,?_,?_⟩
 ·exact ⟨oM,oM,fun j hj=>by omega⟩
 ·exact zf []
 rintro i ⟨h4,h5,h6⟩
 refine Br.mk (fun h7=>?_) (fun h7=>?_)
 ·refine Dr.k ?_;refine Ob.o ?_;intro x hx;refine Ob.o ?_;intro y hy;refine Br.mk (fun h8=>?_) (fun h8=>?_)
  ·refine ze fun e=>h8 (zsv.2 ?_)
   subst e;rw [hx] at hy;exact Option.some.inj hy
  ·refine Ar.o ?_;refine ⟨i+1,⟨oM,oM,fun j hj=>?_⟩,zf [],by dsimp only;omega⟩
   by_cases e:j=i.toNat
   ·subst e;rw [hx,hy,zsv.1 (Decidable.not_not.1 h8)]
   ·exact h6 j oM
 ·exact zP (zqV h1 h7 h6)
def zpd(m:Int):Prop:=1<=m/\m<=3
instance (m:Int):Decidable (zpd m):=inferInstanceAs (Decidable (_/\_))
theorem zxE{n:Int}(h:R64 n):jX (n:Rat)<=2:=by
 have h1:=ziY n;have h2:=uZ h;omega
structure Pnt where
 k:Int
 c:Pix
 p0:Pt
 p1:Pt
 r:Int
 st:List zgI
 sp:Int
 im:Img
 sm:Int
 t:AF
def jb(p:Pnt):List SV:=
 i64 p.k::u8 p.c.r::u8 p.c.g::u8 p.c.b::u8 p.c.a::i64 p.p0.x::i64 p.p0.y::i64 p.p1.x::i64 p.p1.y::i64 p.r::.sl zcy p.st::i64 p.sp::i64 p.im.w::i64 p.im.h::.sl zdt p.im.px::i64 p.sm::afE p.t
def Pnt.same(p q:Pnt):Prop:=p.k=q.k/\p.c=q.c/\p.p0=q.p0/\p.p1=q.p1/\p.r=q.r/\p.st=q.st/\p.sp=q.sp/\p.im=q.im/\p.sm=q.sm/\p.t.same q.t
instance (p q:Pnt):Decidable (p.same q):=inferInstanceAs (Decidable (_/\_))
theorem zqW(p q:Pnt)(hp:p.t.le 10000000)(hq:q.t.le 10000000):zd Tryz.prog 330 [.agg (jb p),.agg (jb q)] [] (pr (p.same q)) []:=by
 refine zc tok mix Tryz.func330 rfl rfl rfl ?_;refine Br.mk (fun h1=>?_) (fun h1=>ze (fun e=>h1 e.1));refine Br.mk (fun h2=>?_) (fun h2=>ze (fun e=>h2 (zjD.2 e.2.1)));refine Br.mk (fun h3=>?_) (fun h3=>ze (fun e=>h3 (qJ.2 e.2.2.1)));refine Br.mk (fun h4=>?_) (fun h4=>ze (fun e=>h4 (qJ.2 e.2.2.2.1)));refine Br.mk (fun h5=>?_) (fun h5=>ze (fun e=>h5 e.2.2.2.2.1));refine Br.mk (fun h6=>?_) (fun h6=>ze (fun e=>h6 e.2.2.2.2.2.2.1));refine Br.mk (fun h7=>?_) (fun h7=>ze (fun e=>h7 e.2.2.2.2.2.2.2.2.1));refine zb.t (zzR p.st q.st) ?_
 refine Br.mk (fun h8=>?_) (fun h8=>ze (fun e=>h8 e.2.2.2.2.2.1));refine zb.t (zlw p.im q.im) ?_;refine Br.mk (fun h9=>?_) (fun h9=>ze (fun e=>h9 e.2.2.2.2.2.2.2.1));refine zb.t (zrO p.t q.t hp hq) ?_;exact zF ⟨fun h=>⟨h1,zjD.1 h2,qJ.1 h3,qJ.1 h4,h5,h8,h6,h9,h7,h⟩,fun e=>e.2.2.2.2.2.2.2.2.2⟩
theorem zjE:LEs yL (afE k7):=by
 have h0:LEs z4 (brE zBR):=jw;have h:LEs (z4++(z4++(z4++(z4++(z4++z4))))) (afE k7):=LEs.append h0 (LEs.append h0 (LEs.append h0 (LEs.append h0 (LEs.append h0 h0))));exact h
def zaU(k:Int):Pnt:=⟨k,zdu,zp,zp,0,[],0,⟨0,0,[]⟩,0,k7⟩
def nil1:SV:=.val (.slice none 0 0)
theorem zxF(k:Int):LE (.agg (i64 k::u8 0::u8 0::u8 0::u8 0::i64 0::i64 0::i64 0::i64 0::i64 0::nil1::i64 0::i64 0::i64 0::nil1::i64 0::yL)) (.agg (jb (zaU k))):=by
 have h:=zjE;exact qK (.cons .refl (.cons .refl (.cons .refl (.cons .refl (.cons .refl (.cons .refl (.cons .refl (.cons .refl (.cons .refl (.cons .refl (.cons zC (.cons .refl (.cons .refl (.cons .refl (.cons zC (.cons .refl h))))))))))))))))
def uQ(p:Pnt):Pnt:=
 if p.k=1 then { p with c:=zdu,t:=k7 } else if p.k=2 then { p with p0:=zp,p1:=zp,st:=[],sp:=0,t:=k7 }
 else if p.k=3 then { p with p0:=zp,r:=0,st:=[],sp:=0,t:=k7 } else if p.k=4 then { p with im:=⟨0,0,[]⟩,sp:=0,sm:=0,t:=k7 } else { p with t:=k7 }
theorem zun(p:Pnt):zd Tryz.prog 331 [.agg (jb p)] [] (.agg (jb (uQ p))) []:=by
 have fin:∀{σ:SV} {q:Pnt},uQ p=q->LE σ (.agg (jb q))->LE σ (.agg (jb (uQ p))):=fun e h=>e ▸ h
 refine zc tok mix Tryz.func331 rfl rfl rfl ?_;refine Br.mk (fun h1=>?_) (fun h1=>?_)
 ·refine fin (q:={ p with c:=zdu,t:=k7 }) (by rw [uQ,if_pos h1]) ?_;exact qK (.cons .refl (.cons .refl (.cons .refl (.cons .refl (.cons .refl (.cons .refl (.cons .refl (.cons .refl (.cons .refl (.cons .refl (.cons .refl (.cons .refl (.cons .refl (.cons .refl (.cons .refl (.cons .refl zjE))))))))))))))))
 refine Br.mk (fun h2=>?_) (fun h2=>?_)
 ·refine fin (q:={ p with p0:=zp,p1:=zp,st:=[],sp:=0,t:=k7 }) (by rw [uQ,if_neg h1,if_pos h2]) ?_;exact qK (.cons .refl (.cons .refl (.cons .refl (.cons .refl (.cons .refl (.cons .refl (.cons .refl (.cons .refl (.cons .refl (.cons .refl (.cons zC (.cons .refl (.cons .refl (.cons .refl (.cons .refl (.cons .refl zjE))))))))))))))))
 refine Br.mk (fun h3=>?_) (fun h3=>?_)
 ·refine fin (q:={ p with p0:=zp,r:=0,st:=[],sp:=0,t:=k7 }) (by rw [uQ,if_neg h1,if_neg h2,if_pos h3]) ?_;exact qK (.cons .refl (.cons .refl (.cons .refl (.cons .refl (.cons .refl (.cons .refl (.cons .refl (.cons .refl (.cons .refl (.cons .refl (.cons zC (.cons .refl (.cons .refl (.cons .refl (.cons .refl (.cons .refl zjE))))))))))))))))
 refine Br.mk (fun h4=>?_) (fun h4=>?_)
 ·refine fin (q:={ p with im:=⟨0,0,[]⟩,sp:=0,sm:=0,t:=k7 }) (by rw [uQ,if_neg h1,if_neg h2,if_neg h3,if_pos h4]) ?_;exact qK (.cons .refl (.cons .refl (.cons .refl (.cons .refl (.cons .refl (.cons .refl (.cons .refl (.cons .refl (.cons .refl (.cons .refl (.cons .refl (.cons .refl (.cons .refl (.cons .refl (.cons zC (.cons .refl zjE))))))))))))))))
 ·refine fin (q:={ p with t:=k7 }) (by rw [uQ,if_neg h1,if_neg h2,if_neg h3,if_neg h4]) ?_;exact qK (.cons .refl (.cons .refl (.cons .refl (.cons .refl (.cons .refl (.cons .refl (.cons .refl (.cons .refl (.cons .refl (.cons .refl (.cons .refl (.cons .refl (.cons .refl (.cons .refl (.cons .refl (.cons .refl zjE))))))))))))))))
theorem zev(n:Int):zd Tryz.prog 334 [i64 n] [] (pr (zpd n)) []:=by
 refine zc tok mix Tryz.func334 rfl rfl rfl ?_;refine Br.mk (fun h1=>?_) (fun h1=>ze (fun h=>h1 h.1));exact zF ⟨fun h=>⟨h1,h⟩,fun h=>h.2⟩
theorem zaV(n:Int):zd Tryz.prog 316 [i64 n] [] (pr (zpd n)) []:=by
 refine zc tok mix Tryz.func316 rfl rfl rfl ?_;refine Br.mk (fun h1=>?_) (fun h1=>ze (fun h=>h1 h.1));exact zF ⟨fun h=>⟨h1,h⟩,fun h=>h.2⟩
theorem zfZ(p:Pnt):zd Tryz.prog 333 [.agg (jb p)] [] (pr (zea p.st/\zpd p.sp)) []:=by
 refine zc tok mix Tryz.func333 rfl rfl rfl ?_;refine zb.t (zxD p.st) ?_;refine Br.mk (fun h1=>?_) (fun h1=>ze (fun h=>h1 h.1));refine zb.t (zev p.sp) ?_;exact zF ⟨fun h=>⟨h1,h⟩,fun h=>h.2⟩
def u1(p:Pnt):Prop:=p.im.w=0/\p.im.h=0/\p.im.px=[]/\p.sm=0
instance (p:Pnt):Decidable (u1 p):=inferInstanceAs (Decidable (_/\_))
def zdv(p:Pnt):Prop:=p.p0=zp/\p.p1=zp/\p.r=0/\p.st=[]
instance (p:Pnt):Decidable (zdv p):=inferInstanceAs (Decidable (_/\_))
def has1(p:Pnt):Prop:=zdv p/\u1 p/\p.sp=0/\p.t.same k7
instance (p:Pnt):Decidable (has1 p):=inferInstanceAs (Decidable (_/\_))
def has2(p:Pnt):Prop:=u1 p/\p.c=zdu/\p.r=0/\zn p.p0/\zn p.p1/\zea p.st/\zpd p.sp
instance (p:Pnt):Decidable (has2 p):=inferInstanceAs (Decidable (_/\_))
def has3(p:Pnt):Prop:=u1 p/\p.c=zdu/\p.p1=zp/\zn p.p0/\1<=p.r/\p.r<=1048576/\zea p.st/\zpd p.sp
instance (p:Pnt):Decidable (has3 p):=inferInstanceAs (Decidable (_/\_))
def has4(p:Pnt):Prop:=zdv p/\p.c=zdu/\zeu p.im/\(p.sp=0∨zpd p.sp)/\(p.sm=1∨p.sm=2)
instance (p:Pnt):Decidable (has4 p):=inferInstanceAs (Decidable (_/\_))
def zm0(p:Pnt):Prop:=(p.k=1/\has1 p)∨(p.k=2/\has2 p)∨(p.k=3/\has3 p)∨(p.k=4/\has4 p)
instance (p:Pnt):Decidable (zm0 p):=inferInstanceAs (Decidable (_∨_))
def u3(p:Pnt):Prop:=p.t.ok/\zm0 p/\(p.k=1∨yf p.t≠0)
instance (p:Pnt):Decidable (u3 p):=inferInstanceAs (Decidable (_/\_))
theorem zAI{p:Pnt}(h:p.k=1):(uQ p).same (zaU p.k)↔zdv p/\u1 p/\p.sp=0:=by
 rw [uQ,if_pos h]
 rcases p with ⟨k,c,p0,p1,r,st,sp,⟨w,hh,px⟩,sm,t⟩
 simp only [Pnt.same,zaU,zdv,u1,Img.mk.injEq];constructor
 ·rintro ⟨_,_,h3,h4,h5,h6,h7,⟨h8,h9,h10⟩,h11,_⟩
  exact ⟨⟨h3,h4,h5,h6⟩,⟨h8,h9,h10,h11⟩,h7⟩
 ·rintro ⟨⟨h3,h4,h5,h6⟩,⟨h8,h9,h10,h11⟩,h7⟩
  exact ⟨trivial,trivial,h3,h4,h5,h6,h7,⟨h8,h9,h10⟩,h11,rfl,rfl,rfl,rfl,rfl,rfl⟩
theorem zAJ{p:Pnt}(h:p.k=2):(uQ p).same (zaU p.k)↔u1 p/\p.c=zdu/\p.r=0:=by
 rw [uQ,if_neg oM,if_pos h]
 rcases p with ⟨k,c,p0,p1,r,st,sp,⟨w,hh,px⟩,sm,t⟩
 simp only [Pnt.same,zaU,u1,Img.mk.injEq];constructor
 ·rintro ⟨_,h2,_,_,h5,_,_,⟨h8,h9,h10⟩,h11,_⟩
  exact ⟨⟨h8,h9,h10,h11⟩,h2,h5⟩
 ·rintro ⟨⟨h8,h9,h10,h11⟩,h2,h5⟩
  exact ⟨trivial,h2,trivial,trivial,h5,trivial,trivial,⟨h8,h9,h10⟩,h11,rfl,rfl,rfl,rfl,rfl,rfl⟩
theorem zAK{p:Pnt}(h:p.k=3):(uQ p).same (zaU p.k)↔u1 p/\p.c=zdu/\p.p1=zp:=by
 rw [uQ,if_neg oM,if_neg oM,if_pos h]
 rcases p with ⟨k,c,p0,p1,r,st,sp,⟨w,hh,px⟩,sm,t⟩
 simp only [Pnt.same,zaU,u1,Img.mk.injEq];constructor
 ·rintro ⟨_,h2,_,h4,_,_,_,⟨h8,h9,h10⟩,h11,_⟩
  exact ⟨⟨h8,h9,h10,h11⟩,h2,h4⟩
 ·rintro ⟨⟨h8,h9,h10,h11⟩,h2,h4⟩
  exact ⟨trivial,h2,trivial,h4,trivial,trivial,trivial,⟨h8,h9,h10⟩,h11,rfl,rfl,rfl,rfl,rfl,rfl⟩
theorem zAL{p:Pnt}(h:p.k=4):(uQ p).same (zaU p.k)↔zdv p/\p.c=zdu:=by
 rw [uQ,if_neg oM,if_neg oM,if_neg oM,if_pos h]
 rcases p with ⟨k,c,p0,p1,r,st,sp,⟨w,hh,px⟩,sm,t⟩
 simp only [Pnt.same,zaU,zdv];constructor
 ·rintro ⟨_,h2,h3,h4,h5,h6,_⟩
  exact ⟨⟨h3,h4,h5,h6⟩,h2⟩
 ·rintro ⟨⟨h3,h4,h5,h6⟩,h2⟩
  exact ⟨trivial,h2,h3,h4,h5,h6,trivial,trivial,trivial,rfl,rfl,rfl,rfl,rfl,rfl⟩
theorem zzS(p:Pnt):(uQ p).t=k7:=by
 unfold uQ;repeat (first | rfl | split)
theorem yh(n:Nat):k7.le n:=⟨Nat.zero_le _,Nat.zero_le _,Nat.zero_le _,Nat.zero_le _,Nat.zero_le _,Nat.zero_le _⟩
theorem uo(x:Rat):¬zgt x 0=0↔x≠0:=by
 have h1:=zmp (x:=x) (y:=0);have h2:=zrM (x:=x) (y:=0);constructor
 ·rintro h rfl
  exact h (Int.le_antisymm (h2.2 Rat.le_refl) (h1.2 Rat.le_refl))
 ·intro h k;exact h (Rat.le_antisymm (h2.1 oM) (h1.1 oM))
theorem zf0{t:AF}{n:Nat}(h:t.le n):jX (yf t)<=4*n+5:=by
 obtain ⟨ha,hb,hc,hd,_,_⟩:=h;have h1:=zoc (t.a.v*t.d.v) (t.b.v*t.c.v);have h2:=jO t.a.v t.d.v;have h3:=jO t.b.v t.c.v;have h4:=zD t.a;have h5:=zD t.b;have h6:=zD t.c;have h7:=zD t.d;unfold yf;omega
theorem zqX(p:Pnt)(hp:p.t.le 1000)(hl:p.im.px.length<=9223372036854775807):zd Tryz.prog 301 [.agg (jb p)] [] (pr (u3 p)) []:=by
 refine zc tok mix Tryz.func301 rfl rfl rfl ?_;have hp7:p.t.le 10000000:=hp.up dC;refine Dr.k ?_;refine zb.t (zb7 p.t (hp.up dC)) ?_;refine Br.mk (fun h1=>ze (fun k=>h1 k.1)) (fun h1=>?_);have h1:=Decidable.not_not.1 h1;refine zb.t (zun p) ?_;refine zb.t ((zqW (uQ p) (zaU p.k) (by rw [zzS];exact yh _) (yh _)).args (.cons .refl (.cons (zxF p.k) .nil))) ?_
 have only:p.k=1∨p.k=2∨p.k=3∨p.k=4->¬(uQ p).same (zaU p.k)->¬zm0 p:=by
  intro _ h2 k
  rcases k with ⟨e,k⟩ | ⟨e,k⟩ | ⟨e,k⟩ | ⟨e,k⟩
  ·exact h2 ((zAI e).2 ⟨k.1,k.2.1,k.2.2.1⟩)
  ·exact h2 ((zAJ e).2 ⟨k.1,k.2.1,k.2.2.1⟩)
  ·exact h2 ((zAK e).2 ⟨k.1,k.2.1,k.2.2.1⟩)
  ·exact h2 ((zAL e).2 ⟨k.1,k.2.1⟩)
 refine Br.mk (fun h2=>ze (fun k=>only (by rcases k.2.1 with h | h | h | h <;> omega) h2 k.2.1)) (fun h2=>?_);have h2:=Decidable.not_not.1 h2;have hcmp:=zfv (ofQ (yf p.t)) zBR (by have:=zf0 hp;rw [zz];omega) (Nat.zero_le _);rw [zV,zBR_v] at hcmp;have det:=hcmp.args (args:=[.agg (brE (ofQ (yf p.t))),.agg [bl false,.val (.slice none 0 0),bl false,.val (.slice none 0 0)]]) (.cons .refl (.cons (qK jw) .nil));refine Br.mk (fun k1=>?_) (fun k1=>?_)
 ·have hb:=(zAI k1).1 h2;refine zb.t ((zrO p.t k7 hp7 (yh _)).args (.cons .refl (.cons zal .nil))) ?_;refine zF ⟨fun h=>⟨h1,.inl ⟨k1,hb.1,hb.2.1,hb.2.2,h⟩,.inl k1⟩,fun h=>?_⟩
  rcases h.2.1 with ⟨e,k⟩ | ⟨e,_⟩ | ⟨e,_⟩ | ⟨e,_⟩
  ·exact k.2.2.2
  all_goals omega
 refine Br.mk (fun k2=>?_) (fun k2=>?_)
 ·have hb:=(zAJ k2).1 h2
  have get:u3 p->has2 p:=fun h=>by
   rcases h.2.1 with ⟨e,_⟩ | ⟨e,k⟩ | ⟨e,_⟩ | ⟨e,_⟩
   ·omega
   ·exact k
   all_goals omega
  refine zb.t (kS p.p0) ?_;refine Br.mk (fun h3=>ze (fun k=>h3 (get k).2.2.2.1)) (fun h3=>?_);refine zb.t (kS p.p1) ?_;refine Br.mk (fun h4=>ze (fun k=>h4 (get k).2.2.2.2.1)) (fun h4=>?_);refine zb.t (zfZ p) ?_;refine Br.mk (fun h5=>ze (fun k=>h5 (get k).2.2.2.2.2)) (fun h5=>?_);refine zb.t (zha p.t hp7) ?_;refine zb.t det ?_;refine zF ((uo _).trans ⟨fun h=>⟨h1,.inr (.inl ⟨k2,hb.1,hb.2.1,hb.2.2,Decidable.not_not.1 h3,Decidable.not_not.1 h4,Decidable.not_not.1 h5⟩),.inr h⟩,fun h=>h.2.2.resolve_left oM⟩)
 refine Br.mk (fun k3=>?_) (fun k3=>?_)
 ·have hb:=(zAK k3).1 h2
  have get:u3 p->has3 p:=fun h=>by
   rcases h.2.1 with ⟨e,_⟩ | ⟨e,_⟩ | ⟨e,k⟩ | ⟨e,_⟩
   ·omega
   ·omega
   ·exact k
   ·omega
  refine zb.t (kS p.p0) ?_;refine Br.mk (fun h3=>ze (fun k=>h3 (get k).2.2.2.1)) (fun h3=>?_);refine Br.mk (fun h4=>ze (fun k=>by have:=(get k).2.2.2.2.1;omega)) (fun h4=>?_);refine Br.mk (fun h5=>ze (fun k=>by have:=(get k).2.2.2.2.2.1;omega)) (fun h5=>?_);refine zb.t (zfZ p) ?_;refine Br.mk (fun h6=>ze (fun k=>h6 (get k).2.2.2.2.2.2)) (fun h6=>?_);refine zb.t (zha p.t hp7) ?_;refine zb.t det ?_
  refine zF ((uo _).trans ⟨fun h=>⟨h1,.inr (.inr (.inl ⟨k3,hb.1,hb.2.1,hb.2.2,Decidable.not_not.1 h3,oM,oM,Decidable.not_not.1 h6⟩)),.inr h⟩,fun h=>h.2.2.resolve_left oM⟩)
 refine Br.mk (fun k4=>?_) (fun k4=>?_)
 ·have hb:=(zAL k4).1 h2
  have get:u3 p->has4 p:=fun h=>by
   rcases h.2.1 with ⟨e,_⟩ | ⟨e,_⟩ | ⟨e,_⟩ | ⟨e,k⟩
   ·omega
   ·omega
   ·omega
   ·exact k
  refine zb.t (zlv p.im hl) ?_;refine Br.mk (fun h3=>ze (fun k=>h3 (get k).2.2.1)) (fun h3=>?_);refine Br.mk (fun h4=>?_) (fun h4=>?_)
  ·refine zb.t (zev p.sp) ?_;refine Br.mk (fun h5=>ze (fun k=>by rcases (get k).2.2.2.1 with h | h;exact h4 h;exact h5 h)) (fun h5=>?_);refine Br.mk (fun h6=>?_) (fun h6=>?_)
   ·refine Br.mk (fun h7=>ze (fun k=>by have:=(get k).2.2.2.2;omega)) (fun h7=>?_);refine zb.t (zha p.t hp7) ?_;refine zb.t det ?_;refine zF ((uo _).trans ⟨fun h=>⟨h1,.inr (.inr (.inr ⟨k4,hb.1,hb.2,Decidable.not_not.1 h3,.inr (Decidable.not_not.1 h5),oM⟩)),.inr h⟩,fun h=>h.2.2.resolve_left oM⟩)
   ·refine zb.t (zha p.t hp7) ?_;refine zb.t det ?_;refine zF ((uo _).trans ⟨fun h=>⟨h1,.inr (.inr (.inr ⟨k4,hb.1,hb.2,Decidable.not_not.1 h3,.inr (Decidable.not_not.1 h5),oM⟩)),.inr h⟩,fun h=>h.2.2.resolve_left oM⟩)
  ·refine Br.mk (fun h6=>?_) (fun h6=>?_)
   ·refine Br.mk (fun h7=>ze (fun k=>by have:=(get k).2.2.2.2;omega)) (fun h7=>?_);refine zb.t (zha p.t hp7) ?_;refine zb.t det ?_;refine zF ((uo _).trans ⟨fun h=>⟨h1,.inr (.inr (.inr ⟨k4,hb.1,hb.2,Decidable.not_not.1 h3,.inl oM,oM⟩)),.inr h⟩,fun h=>h.2.2.resolve_left oM⟩)
   ·refine zb.t (zha p.t hp7) ?_;refine zb.t det ?_;refine zF ((uo _).trans ⟨fun h=>⟨h1,.inr (.inr (.inr ⟨k4,hb.1,hb.2,Decidable.not_not.1 h3,.inl oM,oM⟩)),.inr h⟩,fun h=>h.2.2.resolve_left oM⟩)
 ·exact ze (fun k=>by rcases k.2.1 with ⟨e,_⟩ | ⟨e,_⟩ | ⟨e,_⟩ | ⟨e,_⟩ <;> omega)
def zjF(mode:Int):Prop:=1<=mode/\mode<=13
instance instB01 (m:Int):Decidable (zjF m):=inferInstanceAs (Decidable (_/\_))
theorem zB0(m:Int):zd Tryz.prog 220 [i64 m] [] (pr (zjF m)) []:=by
 refine zc tok mix Tryz.func220 rfl rfl rfl ?_;refine Br.mk (fun h1=>?_) (fun h1=>ze (fun h=>h1 h.1));exact zF ⟨fun h=>⟨h1,h⟩,fun h=>h.2⟩
theorem zB1(m:Int):zd Tryz.prog 136 [i64 m] [] (pr (zjF m)) []:=by
 refine zc tok mix Tryz.func136 rfl rfl rfl ?_;refine Br.mk (fun h1=>?_) (fun h1=>ze (fun h=>h1 h.1));exact zF ⟨fun h=>⟨h1,h⟩,fun h=>h.2⟩
def zm5(ks:List Int):List (Int×SV):=ks.map fun k=>(k,bl true)
theorem zuu{n:Int}{A K0:Prop}{F:Int×SV->List (Int×SV)->Prop->Prop}{ks:List Int}(hF:∀k r ih,(n=k->A)->(¬n=k->ih)->F (k,bl true) r ih)(h1:n∈ks->A)(h0:n∉ks->K0):
  List.rec (motive:=fun _=>Prop) K0 F (zm5 ks):=by
 induction ks with
 | nil=>exact h0 (by simp)
 | cons k r ih=>
  exact hF k (zm5 r) _ (fun e=>h1 (by rw [e];exact .head _)) fun e=>ih (fun h=>h1 (.tail _ h)) fun h=>h0 fun hm=>by
   cases hm with
   | head=>exact e rfl
   | tail _ h'=>exact h h'
theorem zph{n:Int}:∀{ks:List Int} {K:List (Int×SV)->Prop},n∉ks->K (zm5 (ks++[n]))->zu5 (zm5 ks) n (bl true) K
 | [],_,_,k=>k
 | a::r,K,hn,k=>by
  show Br (n=a->K ((n,bl true)::zm5 r)) (¬n=a->zu5 (zm5 r) n (bl true) fun r'=>K ((a,bl true)::r'));exact ⟨fun e=>absurd (e ▸ .head _) hn,fun _=>zph (fun h=>hn (.tail _ h)) k⟩
theorem zlE{p:Pix}:(p.r=0/\p.g=0/\p.b=0/\p.a=0/\True)↔p=zdu:=zjD (q:=zdu)
theorem pt_z{p:Pt}:(p.x=0/\p.y=0/\True)↔p=zp:=qJ (q:=zp)
theorem zxP(p:Pnt):zd Tryz.prog 312 [.agg (jb p)] [] (pr (zdv p)) []:=by
 refine zc tok mix Tryz.func312 rfl rfl rfl ?_;refine Br.mk (fun h1=>?_) (fun h1=>ze (fun h=>h1 (qJ.2 h.1)));refine Br.mk (fun h2=>?_) (fun h2=>ze (fun h=>h2 (qJ.2 h.2.1)));refine Br.mk (fun h3=>?_) (fun h3=>ze (fun h=>h3 h.2.2.1));intro hl;exact zF ⟨fun h=>⟨pt_z.1 h1,pt_z.1 h2,h3,List.length_eq_zero_iff.1 oM⟩,fun h=>by rw [h.2.2.2];rfl⟩
theorem zgJ(p:Pnt):zd Tryz.prog 313 [.agg (jb p)] [] (pr (u1 p)) []:=by
 refine zc tok mix Tryz.func313 rfl rfl rfl ?_;refine Br.mk (fun h1=>?_) (fun h1=>ze (fun h=>h1 h.1));refine Br.mk (fun h2=>?_) (fun h2=>ze (fun h=>h2 h.2.1));intro hl;refine Br.mk (fun h3=>?_) (fun h3=>ze (fun h=>h3 (by rw [h.2.2.1];rfl)));exact zF ⟨fun h=>⟨h1,h2,List.length_eq_zero_iff.1 oM,h⟩,fun h=>h.2.2.2⟩
theorem zz1(t:AF)(ht:t.le 10000000):zd Tryz.prog 314 [.agg (afE t)] [] (pr (t.same k7)) []:=by
 refine zc tok mix Tryz.func314 rfl rfl rfl ?_;refine zb.t ((zd1 t k7 ht (yh _)).args (.cons .refl (.cons zal .nil))) ?_;exact .refl
theorem c_has(p:Pnt)(hp:p.t.le 10000000):zd Tryz.prog 285 [.agg (jb p)] [] (pr (zm0 p)) []:=by
 refine zc tok mix Tryz.func285 rfl rfl rfl ?_;refine Br.mk (fun k1=>?_) (fun k1=>?_)
 ·have get:zm0 p->has1 p:=fun h=>by rcases h with ⟨e,k⟩ | ⟨e,k⟩ | ⟨e,k⟩ | ⟨e,k⟩ <;> first | exact k | omega
  refine zb.t (zxP p) ?_;refine Br.mk (fun h1=>?_) (fun h1=>ze (fun k=>h1 (get k).1));refine zb.t (zgJ p) ?_;refine Br.mk (fun h2=>?_) (fun h2=>ze (fun k=>h2 (get k).2.1));refine Br.mk (fun h3=>?_) (fun h3=>ze (fun k=>h3 (get k).2.2.1));refine zb.t (zz1 p.t hp) ?_;exact zF ⟨fun h=>.inl ⟨k1,h1,h2,h3,h⟩,fun k=>(get k).2.2.2⟩
 refine Br.mk (fun k2=>?_) (fun k2=>?_)
 ·have get:zm0 p->has2 p:=fun h=>by rcases h with ⟨e,k⟩ | ⟨e,k⟩ | ⟨e,k⟩ | ⟨e,k⟩ <;> first | exact k | omega
  refine zb.t (zgJ p) ?_;refine Br.mk (fun h1=>?_) (fun h1=>ze (fun k=>h1 (get k).1));refine Br.mk (fun h2=>?_) (fun h2=>ze (fun k=>h2 (zlE.2 (get k).2.1)));refine Br.mk (fun h3=>?_) (fun h3=>ze (fun k=>h3 (get k).2.2.1));refine zb.t (uB p.p0) ?_;refine Br.mk (fun h4=>?_) (fun h4=>ze (fun k=>h4 (get k).2.2.2.1));refine zb.t (uB p.p1) ?_;refine Br.mk (fun h5=>?_) (fun h5=>ze (fun k=>h5 (get k).2.2.2.2.1));refine zb.t (zlx p.st) ?_;refine Br.mk (fun h6=>?_) (fun h6=>ze (fun k=>h6 (get k).2.2.2.2.2.1));refine zb.t (zaV p.sp) ?_
  exact zF ⟨fun h=>.inr (.inl ⟨k2,h1,zlE.1 h2,h3,h4,h5,h6,h⟩),fun k=>(get k).2.2.2.2.2.2⟩
 refine Br.mk (fun k3=>?_) (fun k3=>?_)
 ·have get:zm0 p->has3 p:=fun h=>by rcases h with ⟨e,k⟩ | ⟨e,k⟩ | ⟨e,k⟩ | ⟨e,k⟩ <;> first | exact k | omega
  refine zb.t (zgJ p) ?_;refine Br.mk (fun h1=>?_) (fun h1=>ze (fun k=>h1 (get k).1));refine Br.mk (fun h2=>?_) (fun h2=>ze (fun k=>h2 (zlE.2 (get k).2.1)));refine Br.mk (fun h3=>?_) (fun h3=>ze (fun k=>h3 (pt_z.2 (get k).2.2.1)));refine zb.t (uB p.p0) ?_;refine Br.mk (fun h4=>?_) (fun h4=>ze (fun k=>h4 (get k).2.2.2.1));refine Br.mk (fun h5=>?_) (fun h5=>ze (fun k=>h5 (get k).2.2.2.2.1));refine Br.mk (fun h6=>?_) (fun h6=>ze (fun k=>h6 (get k).2.2.2.2.2.1));refine zb.t (zlx p.st) ?_
  refine Br.mk (fun h7=>?_) (fun h7=>ze (fun k=>h7 (get k).2.2.2.2.2.2.1));refine zb.t (zaV p.sp) ?_;exact zF ⟨fun h=>.inr (.inr (.inl ⟨k3,h1,zlE.1 h2,pt_z.1 h3,h4,h5,h6,h7,h⟩)),fun k=>(get k).2.2.2.2.2.2.2⟩
 refine Br.mk (fun k4=>?_) (fun k4=>?_)
 ·have get:zm0 p->has4 p:=fun h=>by rcases h with ⟨e,k⟩ | ⟨e,k⟩ | ⟨e,k⟩ | ⟨e,k⟩ <;> first | exact k | omega
  refine zb.t (zxP p) ?_;refine Br.mk (fun h1=>?_) (fun h1=>ze (fun k=>h1 (get k).1));refine Br.mk (fun h2=>?_) (fun h2=>ze (fun k=>h2 (zlE.2 (get k).2.1)));refine zb.t (zjC p.im) ?_;refine Br.mk (fun h3=>?_) (fun h3=>ze (fun k=>h3 (get k).2.2.1));have yes:(p.sp=0∨zpd p.sp)->(p.sm=1∨p.sm=2)->zm0 p:=fun a b=>.inr (.inr (.inr ⟨k4,h1,zlE.1 h2,h3,a,b⟩))
  refine Br.mk (fun h4=>?_) (fun h4=>?_)
  ·refine Br.mk (fun h5=>zP (yes (.inl h4) (.inl h5))) (fun h5=>?_);exact zF ⟨fun h=>yes (.inl h4) (.inr h),fun k=>(get k).2.2.2.2.resolve_left h5⟩
  ·refine zb.t (zaV p.sp) ?_;refine Br.mk (fun h6=>?_) (fun h6=>ze (fun k=>by rcases (get k).2.2.2.1 with h | h;exact h4 h;exact h6 h));refine Br.mk (fun h5=>zP (yes (.inr h6) (.inl h5))) (fun h5=>?_);exact zF ⟨fun h=>yes (.inr h6) (.inr h),fun k=>(get k).2.2.2.2.resolve_left h5⟩
 ·exact ze (fun k=>by rcases k with ⟨e,_⟩ | ⟨e,_⟩ | ⟨e,_⟩ | ⟨e,_⟩ <;> omega)
theorem zpl(p:Pnt)(hp:p.t.le 1000):zd Tryz.prog 238 [.agg (jb p)] [] (pr (u3 p)) []:=by
 refine zc tok mix Tryz.func238 rfl rfl rfl ?_;refine zb.t (zdY p.t (hp.up dC)) ?_;refine Br.mk (fun h1=>ze (fun k=>h1 k.1)) (fun h1=>?_);have h1:=Decidable.not_not.1 h1;refine zb.t (c_has p (hp.up dC)) ?_;refine Br.mk (fun h2=>ze (fun k=>h2 k.2.1)) (fun h2=>?_);have h2:=Decidable.not_not.1 h2;refine Br.mk (fun h3=>zP ⟨h1,h2,.inl h3⟩) (fun h3=>?_);refine zb.t (zrP p.t (hp.up dC)) ?_;have hz:=qn 0 dC;refine zb.t hz ?_;have hcmp:=zmt (ofQ (yf p.t)) (ofQ ((0:Int):Rat)) (by have:=zf0 hp;rw [zz];omega) (by have:=zxE (n:=0) dC;rw [zz];omega)
 rw [zV,zV] at hcmp;refine zb.t hcmp ?_;refine zF ((uo _).trans ⟨fun h=>⟨h1,h2,.inr h⟩,fun h=>h.2.2.resolve_left h3⟩)
end Go.Gs
