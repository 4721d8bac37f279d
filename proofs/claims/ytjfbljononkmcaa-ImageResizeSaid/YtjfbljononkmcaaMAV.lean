/- The versions of a picture: the program's, each in a block of its own. -/
import Derived.Test.YtjfbljononkmcaaMA
import Derived.Test.YtjfbljononkmcaaMAU
import Derived.Test.YtjfbljononkmcaaMAP
set_option maxRecDepth 100000
set_option maxHeartbeats 8000000
set_option linter.all false
namespace Go.Gs
open Go.Proofs
theorem zf8(q:List Pix)(h0:q≠[])(hq:q.length<=100000):zf Try.prog 59 [.sl zb q] [] (.own 0) [(0,.arr 37 zb 4 q)]:=by
 refine zZ tok mix Try.func59 rfl rfl rfl ?_;refine NilC.some (fun h=>h0 (List.eq_nil_of_length_eq_zero h)) ?_;refine ⟨Pix,zb,[],rfl,Ob.o39 ?_⟩;refine ⟨q,rfl,Ob.mk ⟨(by show _*(4:Int)<=_;simp only [List.length_nil];omega),(by simp only [List.length_nil];omega),dC,fun _ _=>rfl⟩ ?_⟩;exact ⟨some 1,.own _ rfl,rfl,fun _ _=>rfl⟩
def rwI(m:Img)(j:Nat):List SV:=[i64 (itI m j).w,i64 (itI m j).h,.own (j+1)]
def zJ(m:Img):Nat->List (Nat×Mem)
 | 1=>[(0,.garr 28 3 [rwI m 0]),(1,.arr 37 zb 4 (itI m 0).px)]
 | 2=>[(0,.garr 28 3 [rwI m 0,rwI m 1]),(1,.arr 37 zb 4 (itI m 0).px),(2,.arr 37 zb 4 (itI m 1).px)]
 | 3=>[(0,.garr 28 3 [rwI m 0,rwI m 1,rwI m 2]),(1,.arr 37 zb 4 (itI m 0).px),(2,.arr 37 zb 4 (itI m 1).px),(3,.arr 37 zb 4 (itI m 2).px)]
 | 4=>[(0,.garr 28 3 [rwI m 0,rwI m 1,rwI m 2,rwI m 3]),(1,.arr 37 zb 4 (itI m 0).px),(2,.arr 37 zb 4 (itI m 1).px),(3,.arr 37 zb 4 (itI m 2).px),(4,.arr 37 zb 4 (itI m 3).px)]
 | 5=>[(0,.garr 28 3 [rwI m 0,rwI m 1,rwI m 2,rwI m 3,rwI m 4]),(1,.arr 37 zb 4 (itI m 0).px),(2,.arr 37 zb 4 (itI m 1).px),(3,.arr 37 zb 4 (itI m 2).px),(4,.arr 37 zb 4 (itI m 3).px),(5,.arr 37 zb 4 (itI m 4).px)]
 | 6=>[(0,.garr 28 3 [rwI m 0,rwI m 1,rwI m 2,rwI m 3,rwI m 4,rwI m 5]),(1,.arr 37 zb 4 (itI m 0).px),(2,.arr 37 zb 4 (itI m 1).px),(3,.arr 37 zb 4 (itI m 2).px),(4,.arr 37 zb 4 (itI m 3).px),(5,.arr 37 zb 4 (itI m 4).px),(6,.arr 37 zb 4 (itI m 5).px)]
 | 7=>[(0,.garr 28 3 [rwI m 0,rwI m 1,rwI m 2,rwI m 3,rwI m 4,rwI m 5,rwI m 6]),(1,.arr 37 zb 4 (itI m 0).px),(2,.arr 37 zb 4 (itI m 1).px),(3,.arr 37 zb 4 (itI m 2).px),(4,.arr 37 zb 4 (itI m 3).px),(5,.arr 37 zb 4 (itI m 4).px),(6,.arr 37 zb 4 (itI m 5).px),(7,.arr 37 zb 4 (itI m 6).px)]
 | 8=>[(0,.garr 28 3 [rwI m 0,rwI m 1,rwI m 2,rwI m 3,rwI m 4,rwI m 5,rwI m 6,rwI m 7]),(1,.arr 37 zb 4 (itI m 0).px),(2,.arr 37 zb 4 (itI m 1).px),(3,.arr 37 zb 4 (itI m 2).px),(4,.arr 37 zb 4 (itI m 3).px),(5,.arr 37 zb 4 (itI m 4).px),(6,.arr 37 zb 4 (itI m 5).px),(7,.arr 37 zb 4 (itI m 6).px),(8,.arr 37 zb 4 (itI m 7).px)]
 | _=>[]
def mipS(m:Img):Nat->St
 | 0=>⟨[(4,.own 0),(3,.loc 2 0)],[(0,.garr 28 3 [rwI m 0]),(1,.arr 37 zb 4 (itI m 0).px),(2,.box 28 (rwI m 0))],3,33,0⟩
 | 1=>⟨[(4,.own 0),(3,.loc 3 0)],[(0,.garr 28 3 [rwI m 0,rwI m 1]),(1,.arr 37 zb 4 (itI m 0).px),(2,.arr 37 zb 4 (itI m 1).px),(3,.box 28 (rwI m 1))],4,33,0⟩
 | 2=>⟨[(4,.own 0),(3,.loc 4 0)],[(0,.garr 28 3 [rwI m 0,rwI m 1,rwI m 2]),(1,.arr 37 zb 4 (itI m 0).px),(2,.arr 37 zb 4 (itI m 1).px),(3,.arr 37 zb 4 (itI m 2).px),(4,.box 28 (rwI m 2))],5,33,0⟩
 | 3=>⟨[(4,.own 0),(3,.loc 5 0)],[(0,.garr 28 3 [rwI m 0,rwI m 1,rwI m 2,rwI m 3]),(1,.arr 37 zb 4 (itI m 0).px),(2,.arr 37 zb 4 (itI m 1).px),(3,.arr 37 zb 4 (itI m 2).px),(4,.arr 37 zb 4 (itI m 3).px),(5,.box 28 (rwI m 3))],6,33,0⟩
 | 4=>⟨[(4,.own 0),(3,.loc 6 0)],[(0,.garr 28 3 [rwI m 0,rwI m 1,rwI m 2,rwI m 3,rwI m 4]),(1,.arr 37 zb 4 (itI m 0).px),(2,.arr 37 zb 4 (itI m 1).px),(3,.arr 37 zb 4 (itI m 2).px),(4,.arr 37 zb 4 (itI m 3).px),(5,.arr 37 zb 4 (itI m 4).px),(6,.box 28 (rwI m 4))],7,33,0⟩
 | 5=>⟨[(4,.own 0),(3,.loc 7 0)],[(0,.garr 28 3 [rwI m 0,rwI m 1,rwI m 2,rwI m 3,rwI m 4,rwI m 5]),(1,.arr 37 zb 4 (itI m 0).px),(2,.arr 37 zb 4 (itI m 1).px),(3,.arr 37 zb 4 (itI m 2).px),(4,.arr 37 zb 4 (itI m 3).px),(5,.arr 37 zb 4 (itI m 4).px),(6,.arr 37 zb 4 (itI m 5).px),(7,.box 28 (rwI m 5))],8,33,0⟩
 | 6=>⟨[(4,.own 0),(3,.loc 8 0)],[(0,.garr 28 3 [rwI m 0,rwI m 1,rwI m 2,rwI m 3,rwI m 4,rwI m 5,rwI m 6]),(1,.arr 37 zb 4 (itI m 0).px),(2,.arr 37 zb 4 (itI m 1).px),(3,.arr 37 zb 4 (itI m 2).px),(4,.arr 37 zb 4 (itI m 3).px),(5,.arr 37 zb 4 (itI m 4).px),(6,.arr 37 zb 4 (itI m 5).px),(7,.arr 37 zb 4 (itI m 6).px),(8,.box 28 (rwI m 6))],9,33,0⟩
 | _=>⟨[(4,.own 0),(3,.loc 9 0)],[(0,.garr 28 3 [rwI m 0,rwI m 1,rwI m 2,rwI m 3,rwI m 4,rwI m 5,rwI m 6,rwI m 7]),(1,.arr 37 zb 4 (itI m 0).px),(2,.arr 37 zb 4 (itI m 1).px),(3,.arr 37 zb 4 (itI m 2).px),(4,.arr 37 zb 4 (itI m 3).px),(5,.arr 37 zb 4 (itI m 4).px),(6,.arr 37 zb 4 (itI m 5).px),(7,.arr 37 zb 4 (itI m 6).px),(8,.arr 37 zb 4 (itI m 7).px),(9,.box 28 (rwI m 7))],10,33,0⟩
theorem j8{n k:Nat}(h:n=k)(hk:k<=10):((n:Int)+((1:Nat):Int))*40<=140737488355328/\n+1<=281474976710656/\0 < 3:=⟨oM,oM,dC⟩
theorem c_mip(m:Img)(hm:okM m)(h8:z5 m<=8):zf Try.prog 28 [.agg (ze m)] [] (.own 0) (zJ m (z5 m)):=by
 obtain ⟨m1,m2,m3,m4,_⟩:=id hm.1;have h1:1<=m.w*m.h:=Int.le_trans m2.1 (by have:=Int.mul_le_mul_of_nonneg_right m1.1 (show 0<=m.h by omega);omega);have hne:m.px≠[]:=fun e=>by rw [e] at m4;have m4:(0:Int)=m.w*m.h:=m4;omega
 obtain ⟨s1,_,_,_⟩:=uK hm.1;refine zdA tok mix Try.func28 rfl rfl rfl ?_;refine zc.t (vy m oM) ?_;refine Br.mk (fun h=>absurd hm.1 h) (fun _=>?_);refine Dr.d ?_;refine zc.fresh _ _ (zf8 m.px hne oM) rfl (kF _) (.inl rfl) ?_;refine Ob.mk (by kernel_rfl) ?_;refine ⟨[[i64 m.w,i64 m.h,.own 1]],rfl,Ob.o1 ?_⟩;refine ⟨Nat,mipS m,fun n=>n+1<=z5 m,fun n=>z5 m - n,0,s1,?_,?_⟩
 ·refine zi [(0,some 3),(1,some 1),(2,some 2)] ⟨⟨_,rfl,rfl,fun i x hx=>?_⟩,rfl,rfl,trivial⟩
  match i,hx with
  | 0,hx=>cases hx;exact ⟨_,rfl,rfl⟩
  | i+1,hx=>cases hx
 intro n hn;have hn:n+1<=z5 m:=hn;obtain ⟨g1,g2⟩:=zf4 hm.1 hn;have hn8:n=0∨n=1∨n=2∨n=3∨n=4∨n=5∨n=6∨n=7:=oM
 rcases hn8 with rfl | rfl | rfl | rfl | rfl | rfl | rfl | rfl
 ·have hh:=qI (itI m 0) (jw hm 0);refine Br.mk (fun c=>?_) (fun c=>?_);rotate_left;refine Br.mk (fun d=>?_) (fun d=>?_);rotate_left
  ·have e:1=z5 m:=g2 fun k=>k.elim c d
   refine ⟨⟨[(2,.own 0)],[(0,.garr 28 3 [rwI m 0]),(1,.arr 37 zb 4 (itI m 0).px)],2,33,0⟩,zi [(0,some 0),(1,some 1)] ⟨⟨_,rfl,rfl,fun i x hx=>?_⟩,rfl,trivial⟩,(congrArg (zJ m) e),.refl⟩
   match i,hx with
   | 0,hx=>cases hx;exact ⟨_,rfl,rfl⟩
   | i+1,hx=>cases hx
  have g:=g1 (.inl c);rotate_left;have g:=g1 (.inr d)
  all_goals
   refine zc.fresh _ _ hh rfl (kF _) (.inr (qi _)) ?_;refine ⟨[[i64 (itI m 1).w,i64 (itI m 1).h,.own 3]],rfl,Ob.o1 ?_⟩;refine Ob.mk (j8 (k:=1) rfl dC) ?_;refine ⟨1,g,zi [(0,some 5),(1,some 1),(2,some 3),(3,some 2)] ⟨⟨_,rfl,rfl,fun i x hx=>?_⟩,rfl,rfl,rfl,trivial⟩,by show z5 m - 1 < z5 m - 0;omega⟩
   match i,hx with
   | 0,hx=>cases hx;exact ⟨_,rfl,rfl⟩
   | 1,hx=>cases hx;exact ⟨_,rfl,rfl⟩
   | i+2,hx=>cases hx
 ·have hh:=qI (itI m 1) (jw hm 1);refine Br.mk (fun c=>?_) (fun c=>?_);rotate_left;refine Br.mk (fun d=>?_) (fun d=>?_);rotate_left
  ·have e:2=z5 m:=g2 fun k=>k.elim c d
   refine ⟨⟨[(2,.own 0)],[(0,.garr 28 3 [rwI m 0,rwI m 1]),(1,.arr 37 zb 4 (itI m 0).px),(2,.arr 37 zb 4 (itI m 1).px)],3,33,0⟩,zi [(0,some 0),(1,some 1),(2,some 2)] ⟨⟨_,rfl,rfl,fun i x hx=>?_⟩,rfl,rfl,trivial⟩,(congrArg (zJ m) e),.refl⟩
   match i,hx with
   | 0,hx=>cases hx;exact ⟨_,rfl,rfl⟩
   | 1,hx=>cases hx;exact ⟨_,rfl,rfl⟩
   | i+2,hx=>cases hx
  have g:=g1 (.inl c);rotate_left;have g:=g1 (.inr d)
  all_goals
   refine zc.fresh _ _ hh rfl (kF _) (.inr (qi _)) ?_;refine ⟨[[i64 (itI m 2).w,i64 (itI m 2).h,.own 4]],rfl,Ob.o1 ?_⟩;refine Ob.mk (j8 (k:=2) rfl dC) ?_;refine ⟨2,g,zi [(0,some 6),(1,some 1),(2,some 2),(3,some 4),(4,some 3)] ⟨⟨_,rfl,rfl,fun i x hx=>?_⟩,rfl,rfl,rfl,rfl,trivial⟩,by show z5 m - 2 < z5 m - 1;omega⟩
   match i,hx with
   | 0,hx=>cases hx;exact ⟨_,rfl,rfl⟩
   | 1,hx=>cases hx;exact ⟨_,rfl,rfl⟩
   | 2,hx=>cases hx;exact ⟨_,rfl,rfl⟩
   | i+3,hx=>cases hx
 ·have hh:=qI (itI m 2) (jw hm 2);refine Br.mk (fun c=>?_) (fun c=>?_);rotate_left;refine Br.mk (fun d=>?_) (fun d=>?_);rotate_left
  ·have e:3=z5 m:=g2 fun k=>k.elim c d
   refine ⟨⟨[(2,.own 0)],[(0,.garr 28 3 [rwI m 0,rwI m 1,rwI m 2]),(1,.arr 37 zb 4 (itI m 0).px),(2,.arr 37 zb 4 (itI m 1).px),(3,.arr 37 zb 4 (itI m 2).px)],4,33,0⟩,zi [(0,some 0),(1,some 1),(2,some 2),(3,some 3)] ⟨⟨_,rfl,rfl,fun i x hx=>?_⟩,rfl,rfl,rfl,trivial⟩,(congrArg (zJ m) e),.refl⟩
   match i,hx with
   | 0,hx=>cases hx;exact ⟨_,rfl,rfl⟩
   | 1,hx=>cases hx;exact ⟨_,rfl,rfl⟩
   | 2,hx=>cases hx;exact ⟨_,rfl,rfl⟩
   | i+3,hx=>cases hx
  have g:=g1 (.inl c);rotate_left;have g:=g1 (.inr d)
  all_goals
   refine zc.fresh _ _ hh rfl (kF _) (.inr (qi _)) ?_;refine ⟨[[i64 (itI m 3).w,i64 (itI m 3).h,.own 5]],rfl,Ob.o1 ?_⟩;refine Ob.mk (j8 (k:=3) rfl dC) ?_;refine ⟨3,g,zi [(0,some 7),(1,some 1),(2,some 2),(3,some 3),(4,some 5),(5,some 4)] ⟨⟨_,rfl,rfl,fun i x hx=>?_⟩,rfl,rfl,rfl,rfl,rfl,trivial⟩,by show z5 m - 3 < z5 m - 2;omega⟩
   match i,hx with
   | 0,hx=>cases hx;exact ⟨_,rfl,rfl⟩
   | 1,hx=>cases hx;exact ⟨_,rfl,rfl⟩
   | 2,hx=>cases hx;exact ⟨_,rfl,rfl⟩
   | 3,hx=>cases hx;exact ⟨_,rfl,rfl⟩
   | i+4,hx=>cases hx
 ·have hh:=qI (itI m 3) (jw hm 3);refine Br.mk (fun c=>?_) (fun c=>?_);rotate_left;refine Br.mk (fun d=>?_) (fun d=>?_);rotate_left
  ·have e:4=z5 m:=g2 fun k=>k.elim c d
   refine ⟨⟨[(2,.own 0)],[(0,.garr 28 3 [rwI m 0,rwI m 1,rwI m 2,rwI m 3]),(1,.arr 37 zb 4 (itI m 0).px),(2,.arr 37 zb 4 (itI m 1).px),(3,.arr 37 zb 4 (itI m 2).px),(4,.arr 37 zb 4 (itI m 3).px)],5,33,0⟩,zi [(0,some 0),(1,some 1),(2,some 2),(3,some 3),(4,some 4)] ⟨⟨_,rfl,rfl,fun i x hx=>?_⟩,rfl,rfl,rfl,rfl,trivial⟩,(congrArg (zJ m) e),.refl⟩
   match i,hx with
   | 0,hx=>cases hx;exact ⟨_,rfl,rfl⟩
   | 1,hx=>cases hx;exact ⟨_,rfl,rfl⟩
   | 2,hx=>cases hx;exact ⟨_,rfl,rfl⟩
   | 3,hx=>cases hx;exact ⟨_,rfl,rfl⟩
   | i+4,hx=>cases hx
  have g:=g1 (.inl c);rotate_left;have g:=g1 (.inr d)
  all_goals
   refine zc.fresh _ _ hh rfl (kF _) (.inr (qi _)) ?_;refine ⟨[[i64 (itI m 4).w,i64 (itI m 4).h,.own 6]],rfl,Ob.o1 ?_⟩;refine Ob.mk (j8 (k:=4) rfl dC) ?_;refine ⟨4,g,zi [(0,some 8),(1,some 1),(2,some 2),(3,some 3),(4,some 4),(5,some 6),(6,some 5)] ⟨⟨_,rfl,rfl,fun i x hx=>?_⟩,rfl,rfl,rfl,rfl,rfl,rfl,trivial⟩,by show z5 m - 4 < z5 m - 3;omega⟩
   match i,hx with
   | 0,hx=>cases hx;exact ⟨_,rfl,rfl⟩
   | 1,hx=>cases hx;exact ⟨_,rfl,rfl⟩
   | 2,hx=>cases hx;exact ⟨_,rfl,rfl⟩
   | 3,hx=>cases hx;exact ⟨_,rfl,rfl⟩
   | 4,hx=>cases hx;exact ⟨_,rfl,rfl⟩
   | i+5,hx=>cases hx
 ·have hh:=qI (itI m 4) (jw hm 4);refine Br.mk (fun c=>?_) (fun c=>?_);rotate_left;refine Br.mk (fun d=>?_) (fun d=>?_);rotate_left
  ·have e:5=z5 m:=g2 fun k=>k.elim c d
   refine ⟨⟨[(2,.own 0)],[(0,.garr 28 3 [rwI m 0,rwI m 1,rwI m 2,rwI m 3,rwI m 4]),(1,.arr 37 zb 4 (itI m 0).px),(2,.arr 37 zb 4 (itI m 1).px),(3,.arr 37 zb 4 (itI m 2).px),(4,.arr 37 zb 4 (itI m 3).px),(5,.arr 37 zb 4 (itI m 4).px)],6,33,0⟩,zi [(0,some 0),(1,some 1),(2,some 2),(3,some 3),(4,some 4),(5,some 5)] ⟨⟨_,rfl,rfl,fun i x hx=>?_⟩,rfl,rfl,rfl,rfl,rfl,trivial⟩,(congrArg (zJ m) e),.refl⟩
   match i,hx with
   | 0,hx=>cases hx;exact ⟨_,rfl,rfl⟩
   | 1,hx=>cases hx;exact ⟨_,rfl,rfl⟩
   | 2,hx=>cases hx;exact ⟨_,rfl,rfl⟩
   | 3,hx=>cases hx;exact ⟨_,rfl,rfl⟩
   | 4,hx=>cases hx;exact ⟨_,rfl,rfl⟩
   | i+5,hx=>cases hx
  have g:=g1 (.inl c);rotate_left;have g:=g1 (.inr d)
  all_goals
   refine zc.fresh _ _ hh rfl (kF _) (.inr (qi _)) ?_;refine ⟨[[i64 (itI m 5).w,i64 (itI m 5).h,.own 7]],rfl,Ob.o1 ?_⟩;refine Ob.mk (j8 (k:=5) rfl dC) ?_;refine ⟨5,g,zi [(0,some 9),(1,some 1),(2,some 2),(3,some 3),(4,some 4),(5,some 5),(6,some 7),(7,some 6)] ⟨⟨_,rfl,rfl,fun i x hx=>?_⟩,rfl,rfl,rfl,rfl,rfl,rfl,rfl,trivial⟩,by show z5 m - 5 < z5 m - 4;omega⟩
   match i,hx with
   | 0,hx=>cases hx;exact ⟨_,rfl,rfl⟩
   | 1,hx=>cases hx;exact ⟨_,rfl,rfl⟩
   | 2,hx=>cases hx;exact ⟨_,rfl,rfl⟩
   | 3,hx=>cases hx;exact ⟨_,rfl,rfl⟩
   | 4,hx=>cases hx;exact ⟨_,rfl,rfl⟩
   | 5,hx=>cases hx;exact ⟨_,rfl,rfl⟩
   | i+6,hx=>cases hx
 ·have hh:=qI (itI m 5) (jw hm 5);refine Br.mk (fun c=>?_) (fun c=>?_);rotate_left;refine Br.mk (fun d=>?_) (fun d=>?_);rotate_left
  ·have e:6=z5 m:=g2 fun k=>k.elim c d
   refine ⟨⟨[(2,.own 0)],[(0,.garr 28 3 [rwI m 0,rwI m 1,rwI m 2,rwI m 3,rwI m 4,rwI m 5]),(1,.arr 37 zb 4 (itI m 0).px),(2,.arr 37 zb 4 (itI m 1).px),(3,.arr 37 zb 4 (itI m 2).px),(4,.arr 37 zb 4 (itI m 3).px),(5,.arr 37 zb 4 (itI m 4).px),(6,.arr 37 zb 4 (itI m 5).px)],7,33,0⟩,zi [(0,some 0),(1,some 1),(2,some 2),(3,some 3),(4,some 4),(5,some 5),(6,some 6)] ⟨⟨_,rfl,rfl,fun i x hx=>?_⟩,rfl,rfl,rfl,rfl,rfl,rfl,trivial⟩,(congrArg (zJ m) e),.refl⟩
   match i,hx with
   | 0,hx=>cases hx;exact ⟨_,rfl,rfl⟩
   | 1,hx=>cases hx;exact ⟨_,rfl,rfl⟩
   | 2,hx=>cases hx;exact ⟨_,rfl,rfl⟩
   | 3,hx=>cases hx;exact ⟨_,rfl,rfl⟩
   | 4,hx=>cases hx;exact ⟨_,rfl,rfl⟩
   | 5,hx=>cases hx;exact ⟨_,rfl,rfl⟩
   | i+6,hx=>cases hx
  have g:=g1 (.inl c);rotate_left;have g:=g1 (.inr d)
  all_goals
   refine zc.fresh _ _ hh rfl (kF _) (.inr (qi _)) ?_;refine ⟨[[i64 (itI m 6).w,i64 (itI m 6).h,.own 8]],rfl,Ob.o1 ?_⟩;refine Ob.mk (j8 (k:=6) rfl dC) ?_;refine ⟨6,g,zi [(0,some 10),(1,some 1),(2,some 2),(3,some 3),(4,some 4),(5,some 5),(6,some 6),(7,some 8),(8,some 7)] ⟨⟨_,rfl,rfl,fun i x hx=>?_⟩,rfl,rfl,rfl,rfl,rfl,rfl,rfl,rfl,trivial⟩,by show z5 m - 6 < z5 m - 5;omega⟩
   match i,hx with
   | 0,hx=>cases hx;exact ⟨_,rfl,rfl⟩
   | 1,hx=>cases hx;exact ⟨_,rfl,rfl⟩
   | 2,hx=>cases hx;exact ⟨_,rfl,rfl⟩
   | 3,hx=>cases hx;exact ⟨_,rfl,rfl⟩
   | 4,hx=>cases hx;exact ⟨_,rfl,rfl⟩
   | 5,hx=>cases hx;exact ⟨_,rfl,rfl⟩
   | 6,hx=>cases hx;exact ⟨_,rfl,rfl⟩
   | i+7,hx=>cases hx
 ·have hh:=qI (itI m 6) (jw hm 6);refine Br.mk (fun c=>?_) (fun c=>?_);rotate_left;refine Br.mk (fun d=>?_) (fun d=>?_);rotate_left
  ·have e:7=z5 m:=g2 fun k=>k.elim c d
   refine ⟨⟨[(2,.own 0)],[(0,.garr 28 3 [rwI m 0,rwI m 1,rwI m 2,rwI m 3,rwI m 4,rwI m 5,rwI m 6]),(1,.arr 37 zb 4 (itI m 0).px),(2,.arr 37 zb 4 (itI m 1).px),(3,.arr 37 zb 4 (itI m 2).px),(4,.arr 37 zb 4 (itI m 3).px),(5,.arr 37 zb 4 (itI m 4).px),(6,.arr 37 zb 4 (itI m 5).px),(7,.arr 37 zb 4 (itI m 6).px)],8,33,0⟩,zi [(0,some 0),(1,some 1),(2,some 2),(3,some 3),(4,some 4),(5,some 5),(6,some 6),(7,some 7)] ⟨⟨_,rfl,rfl,fun i x hx=>?_⟩,rfl,rfl,rfl,rfl,rfl,rfl,rfl,trivial⟩,(congrArg (zJ m) e),.refl⟩
   match i,hx with
   | 0,hx=>cases hx;exact ⟨_,rfl,rfl⟩
   | 1,hx=>cases hx;exact ⟨_,rfl,rfl⟩
   | 2,hx=>cases hx;exact ⟨_,rfl,rfl⟩
   | 3,hx=>cases hx;exact ⟨_,rfl,rfl⟩
   | 4,hx=>cases hx;exact ⟨_,rfl,rfl⟩
   | 5,hx=>cases hx;exact ⟨_,rfl,rfl⟩
   | 6,hx=>cases hx;exact ⟨_,rfl,rfl⟩
   | i+7,hx=>cases hx
  have g:=g1 (.inl c);rotate_left;have g:=g1 (.inr d)
  all_goals
   refine zc.fresh _ _ hh rfl (kF _) (.inr (qi _)) ?_;refine ⟨[[i64 (itI m 7).w,i64 (itI m 7).h,.own 9]],rfl,Ob.o1 ?_⟩;refine Ob.mk (j8 (k:=7) rfl dC) ?_;refine ⟨7,g,zi [(0,some 11),(1,some 1),(2,some 2),(3,some 3),(4,some 4),(5,some 5),(6,some 6),(7,some 7),(8,some 9),(9,some 8)] ⟨⟨_,rfl,rfl,fun i x hx=>?_⟩,rfl,rfl,rfl,rfl,rfl,rfl,rfl,rfl,rfl,trivial⟩,by show z5 m - 7 < z5 m - 6;omega⟩
   match i,hx with
   | 0,hx=>cases hx;exact ⟨_,rfl,rfl⟩
   | 1,hx=>cases hx;exact ⟨_,rfl,rfl⟩
   | 2,hx=>cases hx;exact ⟨_,rfl,rfl⟩
   | 3,hx=>cases hx;exact ⟨_,rfl,rfl⟩
   | 4,hx=>cases hx;exact ⟨_,rfl,rfl⟩
   | 5,hx=>cases hx;exact ⟨_,rfl,rfl⟩
   | 6,hx=>cases hx;exact ⟨_,rfl,rfl⟩
   | 7,hx=>cases hx;exact ⟨_,rfl,rfl⟩
   | i+8,hx=>cases hx
 ·have hh:=qI (itI m 7) (jw hm 7);refine Br.mk (fun c=>?_) (fun c=>?_);rotate_left;refine Br.mk (fun d=>?_) (fun d=>?_);rotate_left
  ·have e:8=z5 m:=g2 fun k=>k.elim c d
   refine ⟨⟨[(2,.own 0)],[(0,.garr 28 3 [rwI m 0,rwI m 1,rwI m 2,rwI m 3,rwI m 4,rwI m 5,rwI m 6,rwI m 7]),(1,.arr 37 zb 4 (itI m 0).px),(2,.arr 37 zb 4 (itI m 1).px),(3,.arr 37 zb 4 (itI m 2).px),(4,.arr 37 zb 4 (itI m 3).px),(5,.arr 37 zb 4 (itI m 4).px),(6,.arr 37 zb 4 (itI m 5).px),(7,.arr 37 zb 4 (itI m 6).px),(8,.arr 37 zb 4 (itI m 7).px)],9,33,0⟩,zi [(0,some 0),(1,some 1),(2,some 2),(3,some 3),(4,some 4),(5,some 5),(6,some 6),(7,some 7),(8,some 8)] ⟨⟨_,rfl,rfl,fun i x hx=>?_⟩,rfl,rfl,rfl,rfl,rfl,rfl,rfl,rfl,trivial⟩,(congrArg (zJ m) e),.refl⟩
   match i,hx with
   | 0,hx=>cases hx;exact ⟨_,rfl,rfl⟩
   | 1,hx=>cases hx;exact ⟨_,rfl,rfl⟩
   | 2,hx=>cases hx;exact ⟨_,rfl,rfl⟩
   | 3,hx=>cases hx;exact ⟨_,rfl,rfl⟩
   | 4,hx=>cases hx;exact ⟨_,rfl,rfl⟩
   | 5,hx=>cases hx;exact ⟨_,rfl,rfl⟩
   | 6,hx=>cases hx;exact ⟨_,rfl,rfl⟩
   | 7,hx=>cases hx;exact ⟨_,rfl,rfl⟩
   | i+8,hx=>cases hx
  ·exact absurd (g1 (.inl c)) oM
  ·exact absurd (g1 (.inr d)) oM
def ov(i a k b:Int):Int:=max 0 (min ((i+1)*a) ((k+1)*b) - max (i*a) (k*b))
theorem u5(i a k b:Int):0<=ov i a k b:=by unfold ov;omega
def sps(size n x:Int)(k:Nat):List (Int×Int):=((List.range k).filter fun (i:Nat)=>decide (0 < ov i n x size)).map fun (i:Nat)=>((i:Int),ov i n x size)
theorem zcT(size n x:Int)(k:Nat):sps size n x (k+1)=sps size n x k++(if 0 < ov k n x size then [((k:Int),ov k n x size)] else []):=by
 unfold sps;rw [List.range_succ,List.filter_append,List.map_append];congr 1
 by_cases h:0 < ov k n x size
 ·rw [if_pos h];simp [h]
 ·rw [if_neg h];simp [h]
theorem uL{size n x:Int}{k:Nat}(h:0 < ov k n x size):sps size n x (k+1)=sps size n x k++[((k:Int),ov k n x size)]:=by rw [zcT,if_pos h]
theorem uM{size n x:Int}{k:Nat}(h:¬0 < ov k n x size):sps size n x (k+1)=sps size n x k:=by rw [zcT,if_neg h,List.append_nil]
theorem zaC{size n x:Int}{j:Nat}:∀{k:Nat},j<=k->(∀i,j<=i->i < k->¬0 < ov (i:Nat) n x size)->sps size n x k=sps size n x j
 | 0,h,_=>by
   obtain rfl:j=0:=oM;rfl
 | k+1,h,hz=>by
  by_cases e:j=k+1
  ·rw [e]
  ·rw [uM (hz k oM oM),zaC oM fun i h1 h2=>hz i h1 oM]
theorem ze1{size n x:Int}{i:Nat}(hn:1<=n)(h:(i:Int) < x*size / n):¬0 < ov i n x size:=by
 have h1:((i:Int)+1)*n<=x*size / n*n:=Int.mul_le_mul_of_nonneg_right oM oM;have h2:=Int.ediv_mul_le (x*size) (show n≠0 by omega);unfold ov;omega
theorem ze2{size n x:Int}{i j:Nat}(hn:1<=n)(h:(x+1)*size<=(i:Int)*n)(hj:i<=j):¬0 < ov j n x size:=by
 have:(i:Int)*n<=(j:Int)*n:=Int.mul_le_mul_of_nonneg_right oM oM;unfold ov;omega
theorem ov_at{size n x:Int}{i:Nat}(hs:1<=size)(hn:1<=n)(h0:x*size / n<=(i:Int))(h:(i:Int)*n < (x+1)*size):
  0 < ov i n x size/\ov i n x size=min ((x+1)*size) (((i:Int)+1)*n) - max (x*size) ((i:Int)*n):=by
 have h1:x*size < ((i:Int)+1)*n:=by
  have a:=Int.lt_ediv_add_one_mul_self (x*size) (show 0 < n by omega);have b:(x*size / n+1)*n<=((i:Int)+1)*n:=Int.mul_le_mul_of_nonneg_right oM oM;omega
 rw [Int.add_mul,Int.one_mul] at h1 h ⊢;unfold ov;rw [Int.add_mul,Int.one_mul,Int.add_mul,Int.one_mul];omega
theorem zgJ{size n x:Int}{i:Nat}(hs:1<=size)(hn:1<=n)(hx:x+1<=n)(h:(i:Int)*n < (x+1)*size):(i:Int) < size:=by
 refine Int.not_le.1 fun k=>?_
 have a:size*n<=(i:Int)*n:=Int.mul_le_mul_of_nonneg_right k oM;have b:(x+1)*size<=n*size:=Int.mul_le_mul_of_nonneg_right hx oM;rw [Int.mul_comm n size] at b;omega
def kA(l:List (Int×Int)):Int:=l.foldl (fun s u=>s+u.2) 0
theorem zaD(l:List (Int×Int))(u:Int×Int):kA (l++[u])=kA l+u.2:=by unfold kA;rw [List.foldl_append];rfl
theorem zcU{size n x:Int}(hn:1<=n)(hs:1<=size)(hx:0<=x):∀k:Nat,kA (sps size n x k)=max 0 (min ((k:Int)*n) ((x+1)*size) - x*size)
 | 0=>by
  have h0:0<=x*size:=Int.mul_nonneg hx oM;show (0:Int)=_;rw [Int.natCast_zero,Int.zero_mul];omega
 | k+1=>by
  have ih:=zcU hn hs hx k;have hov:ov k n x size=max 0 (min ((k:Int)*n+n) (x*size+size) - max ((k:Int)*n) (x*size)):=by unfold ov;rw [Int.add_mul,Int.one_mul,Int.add_mul,Int.one_mul]
  have e:kA (sps size n x (k+1))=kA (sps size n x k)+ov k n x size:=by
   by_cases h:0 < ov k n x size
   ·rw [uL h,zaD]
   ·rw [uM h];have:=u5 k n x size;omega
  rw [e,ih,hov,Int.natCast_add,Int.add_mul,Int.add_mul];have:=Int.mul_nonneg (Int.natCast_nonneg k) (show 0<=n by omega);simp only [Int.natCast_one,Int.one_mul];omega
theorem qE{size n x:Int}(hn:1<=n)(hs:1<=size)(hx:0<=x)(k:Nat):0<=kA (sps size n x k)/\kA (sps size n x k)<=size:=by
 rw [zcU hn hs hx k,Int.add_mul,Int.one_mul];omega
theorem vC{size n x:Int}{k:Nat}{u:Int×Int}(h:u∈sps size n x k):(0<=u.1/\u.1 < k)/\0 < u.2:=by
 obtain ⟨i,hi,rfl⟩:=List.mem_map.1 h;rw [List.mem_filter] at hi;have:=List.mem_range.1 hi.1;exact ⟨⟨Int.natCast_nonneg i,by show (i:Int) < k;omega⟩,by simpa using hi.2⟩
theorem qw:∀{l:List (Int×Int)},(∀u∈l,0<=u.2)->∀k,0<=kA (l.take k)/\kA (l.take k)<=kA l:=by
 intro l hl k
 have key:∀(l:List (Int×Int)) (s:Int),(∀u∈l,0<=u.2)->s<=l.foldl (fun s u=>s+u.2) s:=fun l=>by
  induction l with
  | nil=>intro s _;exact Int.le_refl _
  | cons u l ih=>
   intro s h;have:=ih (s+u.2) fun v hv=>h v (.tail _ hv)
   have:=h u (.head _);show s<=l.foldl (fun s u=>s+u.2) (s+u.2);omega
 refine ⟨key _ 0 fun u hu=>hl u (List.mem_of_mem_take hu),?_⟩
 have e:kA l=(l.drop k).foldl (fun s u=>s+u.2) (kA (l.take k)):=by
  unfold kA;rw [← List.foldl_append,List.take_append_drop]
 rw [e];exact key _ _ fun u hu=>hl u (List.mem_of_mem_drop hu)
def ue(m:Img)(k:Int):Pix:=m.px.getD k.toNat vi
def qx(m:Img)(v:Int×Int)(q:Qd)(l:List (Int×Int)):Qd:=l.foldl (fun q u=>u4 q (ue m (v.1*m.w+u.1)) (u.2*v.2)) q
def kW(m:Img)(cols:List (Int×Int))(l:List (Int×Int)):Qd:=l.foldl (fun q v=>qx m v q cols) zQ
theorem zcV(m:Img)(v:Int×Int)(q:Qd)(l:List (Int×Int))(u:Int×Int):qx m v q (l++[u])=u4 (qx m v q l) (ue m (v.1*m.w+u.1)) (u.2*v.2):=by unfold qx;rw [List.foldl_append];rfl
theorem zcW(m:Img)(cols l:List (Int×Int))(v:Int×Int):kW m cols (l++[v])=qx m v (kW m cols l) cols:=by unfold kW;rw [List.foldl_append];rfl
theorem zbW{m:Img}(hm:okM m){k:Int}(h:0<=k/\k < m.px.length):P8 (ue m k)/\jG (ue m k):=by
 have e:ue m k=m.px[k.toNat]:=by unfold ue;rw [List.getD_eq_getElem?_getD,List.getElem?_eq_getElem oM];rfl
 rw [e];have:=List.getElem_mem (l:=m.px) (n:=k.toNat) oM;exact ⟨hm.2 _ this,hm.1.2.2.2.2 _ this⟩
theorem zbX{m:Img}(hm:okM m){v:Int×Int}{n:Int}(hv:(0<=v.1/\v.1 < m.h)/\0<=v.2):∀{l:List (Int×Int)} {q:Qd} {n:Int},inQ q n->(∀u∈l,(0<=u.1/\u.1 < m.w)/\0<=u.2)->inQ (qx m v q l) (n+kA l*v.2):=by
 intro l
 have key:∀(l:List (Int×Int)) (q:Qd) (n s:Int),inQ q n->(∀u∈l,(0<=u.1/\u.1 < m.w)/\0<=u.2)->inQ (qx m v q l) (n+(l.foldl (fun s u=>s+u.2) s - s)*v.2):=fun l=>by
  induction l with
  | nil=>intro q n s h _;show inQ q (n+(s - s)*v.2);rw [Int.sub_self,Int.zero_mul,Int.add_zero];exact h
  | cons u l ih=>
   intro q n s h hl;obtain ⟨⟨u1,u2⟩,u3⟩:=hl u (.head _);have hp:=jI (a:=u.1) (b:=v.1) (w:=m.w) (h:=m.h) ⟨u1,u2⟩ hv.1 hm.1.2.2.2.1;have ho:=zbW hm (k:=v.1*m.w+u.1) ⟨hp.2.2.1,hp.2.2.2⟩;have h1:=zec h ho.1 ho.2 (Int.mul_nonneg u3 hv.2);have h2:=ih _ _ (s+u.2) h1 fun w hw=>hl w (.tail _ hw)
   have e:n+u.2*v.2+(l.foldl (fun s u=>s+u.2) (s+u.2) - (s+u.2))*v.2=n+((u::l).foldl (fun s u=>s+u.2) s - s)*v.2:=by
    show _=n+(l.foldl (fun s u=>s+u.2) (s+u.2) - s)*v.2;generalize l.foldl (fun s u=>s+u.2) (s+u.2)=z;rw [Int.sub_mul,Int.sub_mul,Int.add_mul];omega
   rw [← e];exact h2
 intro q n h hl;have:=key l q n 0 h hl;rw [Int.sub_zero] at this;exact this
theorem zbY{m:Img}(hm:okM m){cols:List (Int×Int)}(hc:∀u∈cols,(0<=u.1/\u.1 < m.w)/\0<=u.2):∀{l:List (Int×Int)},(∀v∈l,(0<=v.1/\v.1 < m.h)/\0<=v.2)->inQ (kW m cols l) (kA cols*kA l):=by
 intro l
 have key:∀(l:List (Int×Int)) (q:Qd) (n s:Int),inQ q n->(∀v∈l,(0<=v.1/\v.1 < m.h)/\0<=v.2)->inQ (l.foldl (fun q v=>qx m v q cols) q) (n+kA cols*(l.foldl (fun s u=>s+u.2) s - s)):=fun l=>by
  induction l with
  | nil=>intro q n s h _;show inQ q (n+kA cols*(s - s));rw [Int.sub_self,Int.mul_zero,Int.add_zero];exact h
  | cons v l ih=>
   intro q n s h hl;have h1:=zbX (n:=0) hm (hl v (.head _)) h hc;have h2:=ih _ _ (s+v.2) h1 fun w hw=>hl w (.tail _ hw)
   have e:n+kA cols*v.2+kA cols*(l.foldl (fun s u=>s+u.2) (s+v.2) - (s+v.2))=n+kA cols*((v::l).foldl (fun s u=>s+u.2) s - s):=by
    show _=n+kA cols*(l.foldl (fun s u=>s+u.2) (s+v.2) - s);generalize l.foldl (fun s u=>s+u.2) (s+v.2)=z;rw [Int.mul_sub,Int.mul_sub,Int.mul_add];omega
   rw [← e];exact h2
 intro hl;have:=key l zQ 0 0 zcR hl;rw [Int.sub_zero,Int.zero_add] at this;exact this
def qj(m:Img)(w:Int)(x:Nat):List (Int×Int):=sps m.w w x m.w.toNat
def yF(m:Img)(h:Int)(y:Nat):List (Int×Int):=sps m.h h y m.h.toNat
def uf(m:Img)(w h:Int)(x y:Nat):Pix:=zay (kW m (qj m w x) (yF m h y)) (m.w*m.h)
def jd(w h:Int):Prop:=(1<=w/\w<=4096)/\(1<=h/\h<=4096)/\w*h<=65536
instance (w h:Int):Decidable (jd w h):=inferInstanceAs (Decidable (_/\_))
def zcX(m:Img)(w h:Int):List Pix:=gr (uf m w h) w.toNat (h.toNat*w.toNat)
def qk(m:Img)(w h:Int):Img×Int:=if ¬qo m then (⟨0,0,[]⟩,16) else if ¬jd w h then (⟨0,0,[]⟩,6) else (⟨w,h,zcX m w h⟩,0)
theorem yG{m:Img}(hm:qo m){w:Int}{x:Nat}{u:Int×Int}(h:u∈qj m w x):(0<=u.1/\u.1 < m.w)/\0 < u.2:=by
 have:=vC h;have h1:=hm.1.1;omega
theorem jO{m:Img}(hm:qo m){h:Int}{y:Nat}{u:Int×Int}(k:u∈yF m h y):(0<=u.1/\u.1 < m.h)/\0 < u.2:=by
 have:=vC k;have h1:=hm.2.1.1;omega
theorem zf9{m:Img}(hm:okM m){w h:Int}(hw:1<=w)(hh:1<=h)(x y:Nat):inQ (kW m (qj m w x) (yF m h y)) (m.w*m.h):=by
 have h1:=zbY hm (cols:=qj m w x) (fun u hu=>by have:=yG hm.1 hu;omega) (l:=yF m h y) fun v hv=>by have:=jO hm.1 hv;omega
 have a:=qE (size:=m.w) (n:=w) (x:=(x:Int)) hw hm.1.1.1 oM m.w.toNat;have b:=qE (size:=m.h) (n:=h) (x:=(y:Int)) hh hm.1.2.1.1 oM m.h.toNat;exact zhm h1 (Int.mul_le_mul a.2 b.2 b.1 oM)
theorem zgK {σ:St} (k0:Nat) {m m':Mem} (h0:zm σ.M k0=some m)
  (hm:∀(S Pm:Nat->Prop) (ρ:zh) (w:World),kM S Pm ρ w k0 m->kM S Pm ρ w k0 m'):
  Sub σ ⟨σ.L,zN σ.M k0 m',σ.nk,σ.nt,σ.n0⟩:=by
 intro E ρ a w hr;refine ⟨ρ,?_⟩;have hkeys:(zN σ.M k0 m').map (·.1)=σ.M.map (·.1):=qz;have hown:∀b,Own (zN σ.M k0 m') ρ b->Own σ.M ρ b:=fun b hb=>qt hkeys.symm hb
 have hown':∀b,Own σ.M ρ b->Own (zN σ.M k0 m') ρ b:=fun b hb=>qt hkeys hb
 have eo:Own (zN σ.M k0 m') ρ=Own σ.M ρ:=funext fun b=>propext ⟨hown b,hown' b⟩
 refine ⟨hr.size,hr.defers,fun t s hl=>?_,⟨fun k1 m1 h1=>?_,ko hkeys hr.mem.keys,fun k1 m1 k2 m2 v1 v2 b h1 h2=>?_,fun b hb=>hr.mem.old b (hown b hb),hr.mem.kp,hr.mem.glO hown⟩,
  hr.fresh,?_,hr.keep,hr.low⟩
 ·show t < σ.nt/\G (fun b=>E.Keep b∨Own (zN σ.M k0 m') ρ b) (Own (zN σ.M k0 m') ρ) ρ w s (a.tmps.getD t undef);rw [eo];exact hr.regs t s hl
 ·show kM (fun b=>E.Keep b∨Own (zN σ.M k0 m') ρ b) (Own (zN σ.M k0 m') ρ) ρ w k1 m1;rw [eo]
  rcases z2 hr.mem.keys _ h1 with ⟨_,h2⟩ | h2
  ·exact hr.mem.rel k1 m1 h2
  ·cases h2
   exact hm _ _ _ _ (hr.mem.rel k0 m (zj h0))
 ·have back:∀k1 m1,(k1,m1)∈zN σ.M k0 m'->∃m',(k1,m')∈σ.M:=fun k1 m1 h=>by
   rcases z2 hr.mem.keys _ h with ⟨_,h2⟩ | h2
   ·exact ⟨m1,h2⟩
   ·cases h2;exact ⟨_,zj h0⟩
  obtain ⟨m1',h1'⟩:=back _ _ h1;obtain ⟨m2',h2'⟩:=back _ _ h2;exact hr.mem.apart k1 m1' k2 m2' v1 v2 b h1' h2'
 ·show Stp E.W0 (Own (zN σ.M k0 m') ρ) E.ρ0 ρ E.w0 w;rw [eo];exact hr.stp
def ug(u:Int×Int):List SV:=[i64 u.1,i64 u.2]
def spE(r:List (Int×Int)):List SV:=[.sl ug r]
abbrev je:List SV:=[.val (.slice none 0 0)]
def spG(d:List (List (Int×Int)))(r:List SV)(k:Nat):List (List SV):=d.map spE++r::List.replicate k je
theorem zga{d:List (List (Int×Int))}{r x:List SV}{k n:Nat}(hn:n=d.length)(h:(spG d r k)[n]? =some x):x=r:=by
 subst hn;unfold spG at h;rw [List.getElem?_append_right (by rw [List.length_map];exact Nat.le_refl _),List.length_map,Nat.sub_self] at h;exact (Option.some.inj h).symm
theorem zgL{d:List (List (Int×Int))}{r s:List SV}{k n:Nat}(hn:n=d.length):(spG d r k).set n s=spG d s k:=by
 subst hn;unfold spG;rw [List.set_append_right _ _ (by rw [List.length_map];exact Nat.le_refl _),List.length_map,Nat.sub_self];rfl
theorem jn(d:List (List (Int×Int)))(r:List SV)(k:Nat):(spG d r k).length=d.length+1+k:=by unfold spG;simp;omega
theorem zdB{tb:List (Nat×Option Nat)}{d:List (List (Int×Int))}{r s:List SV}{k:Nat}(h:ren.rens tb r=some s):
  (spG d s k).length=(spG d r k).length/\∀(j:Nat) x,(spG d r k)[j]? =some x->∃x',(spG d s k)[j]? =some x'/\ren.rens tb x=some x':=by
 refine ⟨by rw [jn,jn],fun j x hx=>?_⟩;unfold spG at hx ⊢;rw [List.getElem?_append] at hx ⊢
 by_cases c:j < (d.map spE).length
 ·rw [if_pos c] at hx ⊢;refine ⟨x,hx,?_⟩;rw [List.getElem?_map] at hx
  cases hy:d[j]? with
  | none=>rw [hy] at hx;cases hx
  | some y=>rw [hy] at hx;cases hx;rfl
 ·rw [if_neg c] at hx ⊢
  cases hj:j - (d.map spE).length with
  | zero=>rw [hj] at hx;cases hx;exact ⟨s,rfl,h⟩
  | succ i=>
   rw [hj] at hx;have hx:(List.replicate k je)[i]? =some x:=hx;refine ⟨x,hx,?_⟩;have:=List.eq_of_mem_replicate (List.mem_of_getElem? hx);rw [this];rfl
theorem zgb{d:List (List (Int×Int))}{r:List SV}{k:Nat}(hr:r.length=1):∀x∈spG d r k,x.length=1:=fun x hx=>by
 unfold spG at hx
 rcases List.mem_append.1 hx with h | h
 ·obtain ⟨y,_,rfl⟩:=List.mem_map.1 h;rfl
 ·rcases List.mem_cons.1 h with rfl | h
  ·exact hr
  ·rw [List.eq_of_mem_replicate h];rfl
theorem zgM{d:List (List (Int×Int))}{ys:List (Int×Int)}{a k:Nat}(i j:Nat)(x':List SV)(s':SV)(hx:(spG d (spE ys) k)[i]? =some x')(hs:x'[j]? =some s'):
  ∃(x:List SV) (s:SV),(spG d [.own a] k)[i]? =some x/\x[j]? =some s/\(s'=s∨(s=.own a/\s'=.sl ug ys)):=by
 unfold spG at hx ⊢;rw [List.getElem?_append] at hx
 by_cases c:i < (d.map spE).length
 ·rw [if_pos c] at hx;exact ⟨x',s',by rw [List.getElem?_append,if_pos c];exact hx,hs,.inl rfl⟩
 ·rw [if_neg c] at hx
  cases hj:i - (d.map spE).length with
  | zero=>
   rw [hj] at hx
   cases hx
   match j,hs with
   | 0,hs=>cases hs;exact ⟨[.own a],.own a,by rw [List.getElem?_append,if_neg c,hj];rfl,rfl,.inr ⟨rfl,rfl⟩⟩
   | j+1,hs=>cases hs
  | succ n=>
   rw [hj] at hx;have hx:(List.replicate k je)[n]? =some x':=hx;exact ⟨x',s',by rw [List.getElem?_append,if_neg c,hj];exact hx,hs,.inl rfl⟩
def kS(size n:Int)(k:Nat):List (List (Int×Int)):=(List.range k).map fun (x:Nat)=>sps size n x size.toNat
theorem u6(size n:Int)(k:Nat):(kS size n k).length=k:=by unfold kS;simp
theorem zdC(size n:Int)(k:Nat):kS size n (k+1)=kS size n k++[sps size n k size.toNat]:=by unfold kS;rw [List.range_succ,List.map_append];rfl
theorem zgN(size n x:Int)(k:Nat):(sps size n x k).length<=k:=by
 unfold sps;rw [List.length_map];have:=List.length_filter_le (fun (i:Nat)=>decide (0 < ov i n x size)) (List.range k)
 rwa [List.length_range] at this
theorem zgc(k:Nat):(List.replicate k ()).map (fun _=>je)=List.replicate k je:=by rw [List.map_replicate]
end Go.Gs
