/- The versions of a picture: the program's, each in a block of its own. -/
import Derived.Test.YtjfbljononkmcaaMA
import Derived.Test.YtjfbljononkmcaaMAW
import Derived.Test.YtjfbljononkmcaaMAQ
import Derived.Test.YtjfbljononkmcaaMAU
set_option maxRecDepth 100000
set_option maxHeartbeats 8000000
set_option linter.all false
namespace Go.Gs
open Go.Proofs
theorem zkl(q:List Pix)(h0:q≠[])(hq:q.length<=100000):zf Try.prog 59 [.sl kd q] [] (.own 0) [(0,.arr 37 kd 4 q)]:=by
 refine kJ tok mix Try.func59 rfl rfl rfl ?_;refine NilC.some (fun h=>h0 (List.eq_nil_of_length_eq_zero h)) ?_;refine ⟨Pix,kd,[],rfl,Ob.mk ⟨rfl,dC,dC,dC,fun x hx=>by cases hx⟩ ?_⟩;refine ⟨q,rfl,Ob.mk ⟨(by show _*(4:Int)<=_;simp only [List.length_nil];omega),(by simp only [List.length_nil];omega),dC,fun _ _=>rfl⟩ ?_⟩;exact ⟨some 1,.own _ rfl,rfl,fun _ _=>rfl⟩
def rwI(m:Img)(j:Nat):List SV:=[i64 (itI m j).w,i64 (itI m j).h,.own (j+1)]
def zjo(m:Img):Nat->List (Nat×Mem)
 | 1=>[(0,.garr 28 3 [rwI m 0]),(1,.arr 37 kd 4 (itI m 0).px)]
 | 2=>[(0,.garr 28 3 [rwI m 0,rwI m 1]),(1,.arr 37 kd 4 (itI m 0).px),(2,.arr 37 kd 4 (itI m 1).px)]
 | 3=>[(0,.garr 28 3 [rwI m 0,rwI m 1,rwI m 2]),(1,.arr 37 kd 4 (itI m 0).px),(2,.arr 37 kd 4 (itI m 1).px),(3,.arr 37 kd 4 (itI m 2).px)]
 | 4=>[(0,.garr 28 3 [rwI m 0,rwI m 1,rwI m 2,rwI m 3]),(1,.arr 37 kd 4 (itI m 0).px),(2,.arr 37 kd 4 (itI m 1).px),(3,.arr 37 kd 4 (itI m 2).px),(4,.arr 37 kd 4 (itI m 3).px)]
 | 5=>[(0,.garr 28 3 [rwI m 0,rwI m 1,rwI m 2,rwI m 3,rwI m 4]),(1,.arr 37 kd 4 (itI m 0).px),(2,.arr 37 kd 4 (itI m 1).px),(3,.arr 37 kd 4 (itI m 2).px),(4,.arr 37 kd 4 (itI m 3).px),(5,.arr 37 kd 4 (itI m 4).px)]
 | 6=>[(0,.garr 28 3 [rwI m 0,rwI m 1,rwI m 2,rwI m 3,rwI m 4,rwI m 5]),(1,.arr 37 kd 4 (itI m 0).px),(2,.arr 37 kd 4 (itI m 1).px),(3,.arr 37 kd 4 (itI m 2).px),(4,.arr 37 kd 4 (itI m 3).px),(5,.arr 37 kd 4 (itI m 4).px),(6,.arr 37 kd 4 (itI m 5).px)]
 | 7=>[(0,.garr 28 3 [rwI m 0,rwI m 1,rwI m 2,rwI m 3,rwI m 4,rwI m 5,rwI m 6]),(1,.arr 37 kd 4 (itI m 0).px),(2,.arr 37 kd 4 (itI m 1).px),(3,.arr 37 kd 4 (itI m 2).px),(4,.arr 37 kd 4 (itI m 3).px),(5,.arr 37 kd 4 (itI m 4).px),(6,.arr 37 kd 4 (itI m 5).px),(7,.arr 37 kd 4 (itI m 6).px)]
 | 8=>[(0,.garr 28 3 [rwI m 0,rwI m 1,rwI m 2,rwI m 3,rwI m 4,rwI m 5,rwI m 6,rwI m 7]),(1,.arr 37 kd 4 (itI m 0).px),(2,.arr 37 kd 4 (itI m 1).px),(3,.arr 37 kd 4 (itI m 2).px),(4,.arr 37 kd 4 (itI m 3).px),(5,.arr 37 kd 4 (itI m 4).px),(6,.arr 37 kd 4 (itI m 5).px),(7,.arr 37 kd 4 (itI m 6).px),(8,.arr 37 kd 4 (itI m 7).px)]
 | _=>[]
def mipS(m:Img):Nat->St
 | 0=>⟨[(4,.own 0),(3,.loc 2 0)],[(0,.garr 28 3 [rwI m 0]),(1,.arr 37 kd 4 (itI m 0).px),(2,.box 28 (rwI m 0))],3,33,0⟩
 | 1=>⟨[(4,.own 0),(3,.loc 3 0)],[(0,.garr 28 3 [rwI m 0,rwI m 1]),(1,.arr 37 kd 4 (itI m 0).px),(2,.arr 37 kd 4 (itI m 1).px),(3,.box 28 (rwI m 1))],4,33,0⟩
 | 2=>⟨[(4,.own 0),(3,.loc 4 0)],[(0,.garr 28 3 [rwI m 0,rwI m 1,rwI m 2]),(1,.arr 37 kd 4 (itI m 0).px),(2,.arr 37 kd 4 (itI m 1).px),(3,.arr 37 kd 4 (itI m 2).px),(4,.box 28 (rwI m 2))],5,33,0⟩
 | 3=>⟨[(4,.own 0),(3,.loc 5 0)],[(0,.garr 28 3 [rwI m 0,rwI m 1,rwI m 2,rwI m 3]),(1,.arr 37 kd 4 (itI m 0).px),(2,.arr 37 kd 4 (itI m 1).px),(3,.arr 37 kd 4 (itI m 2).px),(4,.arr 37 kd 4 (itI m 3).px),(5,.box 28 (rwI m 3))],6,33,0⟩
 | 4=>⟨[(4,.own 0),(3,.loc 6 0)],[(0,.garr 28 3 [rwI m 0,rwI m 1,rwI m 2,rwI m 3,rwI m 4]),(1,.arr 37 kd 4 (itI m 0).px),(2,.arr 37 kd 4 (itI m 1).px),(3,.arr 37 kd 4 (itI m 2).px),(4,.arr 37 kd 4 (itI m 3).px),(5,.arr 37 kd 4 (itI m 4).px),(6,.box 28 (rwI m 4))],7,33,0⟩
 | 5=>⟨[(4,.own 0),(3,.loc 7 0)],[(0,.garr 28 3 [rwI m 0,rwI m 1,rwI m 2,rwI m 3,rwI m 4,rwI m 5]),(1,.arr 37 kd 4 (itI m 0).px),(2,.arr 37 kd 4 (itI m 1).px),(3,.arr 37 kd 4 (itI m 2).px),(4,.arr 37 kd 4 (itI m 3).px),(5,.arr 37 kd 4 (itI m 4).px),(6,.arr 37 kd 4 (itI m 5).px),(7,.box 28 (rwI m 5))],8,33,0⟩
 | 6=>⟨[(4,.own 0),(3,.loc 8 0)],[(0,.garr 28 3 [rwI m 0,rwI m 1,rwI m 2,rwI m 3,rwI m 4,rwI m 5,rwI m 6]),(1,.arr 37 kd 4 (itI m 0).px),(2,.arr 37 kd 4 (itI m 1).px),(3,.arr 37 kd 4 (itI m 2).px),(4,.arr 37 kd 4 (itI m 3).px),(5,.arr 37 kd 4 (itI m 4).px),(6,.arr 37 kd 4 (itI m 5).px),(7,.arr 37 kd 4 (itI m 6).px),(8,.box 28 (rwI m 6))],9,33,0⟩
 | _=>⟨[(4,.own 0),(3,.loc 9 0)],[(0,.garr 28 3 [rwI m 0,rwI m 1,rwI m 2,rwI m 3,rwI m 4,rwI m 5,rwI m 6,rwI m 7]),(1,.arr 37 kd 4 (itI m 0).px),(2,.arr 37 kd 4 (itI m 1).px),(3,.arr 37 kd 4 (itI m 2).px),(4,.arr 37 kd 4 (itI m 3).px),(5,.arr 37 kd 4 (itI m 4).px),(6,.arr 37 kd 4 (itI m 5).px),(7,.arr 37 kd 4 (itI m 6).px),(8,.arr 37 kd 4 (itI m 7).px),(9,.box 28 (rwI m 7))],10,33,0⟩
theorem ziR{n k:Nat}(h:n=k)(hk:k<=10):((n:Int)+((1:Nat):Int))*40<=140737488355328/\n+1<=281474976710656/\0 < 3:=⟨oM,oM,dC⟩
theorem c_mip(m:Img)(hm:okM m)(h8:zix m<=8):zf Try.prog 28 [.agg (kj m)] [] (.own 0) (zjo m (zix m)):=by
 obtain ⟨m1,m2,m3,m4,_⟩:=id hm.1;have h1:1<=m.w*m.h:=Int.le_trans m2.1 (by have:=Int.mul_le_mul_of_nonneg_right m1.1 (show 0<=m.h by omega);omega);have hne:m.px≠[]:=fun e=>by rw [e] at m4;have m4:(0:Int)=m.w*m.h:=m4;omega
 obtain ⟨s1,_,_,_⟩:=zjz hm.1;refine zaY tok mix Try.func28 rfl rfl rfl ?_;refine ze.t (zeP m oM) ?_;refine Br.mk (fun h=>absurd hm.1 h) (fun _=>?_);refine Dr.d ?_;refine ze.fresh _ _ (zkl m.px hne oM) rfl (ziz _) (.inl rfl) ?_;refine Ob.mk (by kernel_rfl) ?_;refine ⟨[[i64 m.w,i64 m.h,.own 1]],rfl,Ob.o1 ?_⟩;refine ⟨Nat,mipS m,fun n=>n+1<=zix m,fun n=>zix m - n,0,s1,?_,?_⟩
 ·refine kD [(0,some 3),(1,some 1),(2,some 2)] ⟨⟨_,rfl,rfl,fun i x hx=>?_⟩,rfl,rfl,trivial⟩
  match i,hx with
  | 0,hx=>cases hx;exact ⟨_,rfl,rfl⟩
  | i+1,hx=>cases hx
 intro n hn;have hn:n+1<=zix m:=hn;obtain ⟨g1,g2⟩:=zkR hm.1 hn;have hn8:n=0∨n=1∨n=2∨n=3∨n=4∨n=5∨n=6∨n=7:=oM
 rcases hn8 with rfl | rfl | rfl | rfl | rfl | rfl | rfl | rfl
 ·have hh:=ziF (itI m 0) (ziN hm 0);refine Br.mk (fun c=>?_) (fun c=>?_);rotate_left;refine Br.mk (fun d=>?_) (fun d=>?_);rotate_left
  ·have e:1=zix m:=g2 fun k=>k.elim c d
   refine ⟨⟨[(2,.own 0)],[(0,.garr 28 3 [rwI m 0]),(1,.arr 37 kd 4 (itI m 0).px)],2,33,0⟩,kD [(0,some 0),(1,some 1)] ⟨⟨_,rfl,rfl,fun i x hx=>?_⟩,rfl,trivial⟩,(congrArg (zjo m) e),.refl⟩
   match i,hx with
   | 0,hx=>cases hx;exact ⟨_,rfl,rfl⟩
   | i+1,hx=>cases hx
  have g:=g1 (.inl c);rotate_left;have g:=g1 (.inr d)
  all_goals
   refine ze.fresh _ _ hh rfl (ziz _) (.inr (ziA _)) ?_;refine ⟨[[i64 (itI m 1).w,i64 (itI m 1).h,.own 3]],rfl,Ob.o1 ?_⟩;refine Ob.mk (ziR (k:=1) rfl dC) ?_;refine ⟨1,g,kD [(0,some 5),(1,some 1),(2,some 3),(3,some 2)] ⟨⟨_,rfl,rfl,fun i x hx=>?_⟩,rfl,rfl,rfl,trivial⟩,by show zix m - 1 < zix m - 0;omega⟩
   match i,hx with
   | 0,hx=>cases hx;exact ⟨_,rfl,rfl⟩
   | 1,hx=>cases hx;exact ⟨_,rfl,rfl⟩
   | i+2,hx=>cases hx
 ·have hh:=ziF (itI m 1) (ziN hm 1);refine Br.mk (fun c=>?_) (fun c=>?_);rotate_left;refine Br.mk (fun d=>?_) (fun d=>?_);rotate_left
  ·have e:2=zix m:=g2 fun k=>k.elim c d
   refine ⟨⟨[(2,.own 0)],[(0,.garr 28 3 [rwI m 0,rwI m 1]),(1,.arr 37 kd 4 (itI m 0).px),(2,.arr 37 kd 4 (itI m 1).px)],3,33,0⟩,kD [(0,some 0),(1,some 1),(2,some 2)] ⟨⟨_,rfl,rfl,fun i x hx=>?_⟩,rfl,rfl,trivial⟩,(congrArg (zjo m) e),.refl⟩
   match i,hx with
   | 0,hx=>cases hx;exact ⟨_,rfl,rfl⟩
   | 1,hx=>cases hx;exact ⟨_,rfl,rfl⟩
   | i+2,hx=>cases hx
  have g:=g1 (.inl c);rotate_left;have g:=g1 (.inr d)
  all_goals
   refine ze.fresh _ _ hh rfl (ziz _) (.inr (ziA _)) ?_;refine ⟨[[i64 (itI m 2).w,i64 (itI m 2).h,.own 4]],rfl,Ob.o1 ?_⟩;refine Ob.mk (ziR (k:=2) rfl dC) ?_;refine ⟨2,g,kD [(0,some 6),(1,some 1),(2,some 2),(3,some 4),(4,some 3)] ⟨⟨_,rfl,rfl,fun i x hx=>?_⟩,rfl,rfl,rfl,rfl,trivial⟩,by show zix m - 2 < zix m - 1;omega⟩
   match i,hx with
   | 0,hx=>cases hx;exact ⟨_,rfl,rfl⟩
   | 1,hx=>cases hx;exact ⟨_,rfl,rfl⟩
   | 2,hx=>cases hx;exact ⟨_,rfl,rfl⟩
   | i+3,hx=>cases hx
 ·have hh:=ziF (itI m 2) (ziN hm 2);refine Br.mk (fun c=>?_) (fun c=>?_);rotate_left;refine Br.mk (fun d=>?_) (fun d=>?_);rotate_left
  ·have e:3=zix m:=g2 fun k=>k.elim c d
   refine ⟨⟨[(2,.own 0)],[(0,.garr 28 3 [rwI m 0,rwI m 1,rwI m 2]),(1,.arr 37 kd 4 (itI m 0).px),(2,.arr 37 kd 4 (itI m 1).px),(3,.arr 37 kd 4 (itI m 2).px)],4,33,0⟩,kD [(0,some 0),(1,some 1),(2,some 2),(3,some 3)] ⟨⟨_,rfl,rfl,fun i x hx=>?_⟩,rfl,rfl,rfl,trivial⟩,(congrArg (zjo m) e),.refl⟩
   match i,hx with
   | 0,hx=>cases hx;exact ⟨_,rfl,rfl⟩
   | 1,hx=>cases hx;exact ⟨_,rfl,rfl⟩
   | 2,hx=>cases hx;exact ⟨_,rfl,rfl⟩
   | i+3,hx=>cases hx
  have g:=g1 (.inl c);rotate_left;have g:=g1 (.inr d)
  all_goals
   refine ze.fresh _ _ hh rfl (ziz _) (.inr (ziA _)) ?_;refine ⟨[[i64 (itI m 3).w,i64 (itI m 3).h,.own 5]],rfl,Ob.o1 ?_⟩;refine Ob.mk (ziR (k:=3) rfl dC) ?_;refine ⟨3,g,kD [(0,some 7),(1,some 1),(2,some 2),(3,some 3),(4,some 5),(5,some 4)] ⟨⟨_,rfl,rfl,fun i x hx=>?_⟩,rfl,rfl,rfl,rfl,rfl,trivial⟩,by show zix m - 3 < zix m - 2;omega⟩
   match i,hx with
   | 0,hx=>cases hx;exact ⟨_,rfl,rfl⟩
   | 1,hx=>cases hx;exact ⟨_,rfl,rfl⟩
   | 2,hx=>cases hx;exact ⟨_,rfl,rfl⟩
   | 3,hx=>cases hx;exact ⟨_,rfl,rfl⟩
   | i+4,hx=>cases hx
 ·have hh:=ziF (itI m 3) (ziN hm 3);refine Br.mk (fun c=>?_) (fun c=>?_);rotate_left;refine Br.mk (fun d=>?_) (fun d=>?_);rotate_left
  ·have e:4=zix m:=g2 fun k=>k.elim c d
   refine ⟨⟨[(2,.own 0)],[(0,.garr 28 3 [rwI m 0,rwI m 1,rwI m 2,rwI m 3]),(1,.arr 37 kd 4 (itI m 0).px),(2,.arr 37 kd 4 (itI m 1).px),(3,.arr 37 kd 4 (itI m 2).px),(4,.arr 37 kd 4 (itI m 3).px)],5,33,0⟩,kD [(0,some 0),(1,some 1),(2,some 2),(3,some 3),(4,some 4)] ⟨⟨_,rfl,rfl,fun i x hx=>?_⟩,rfl,rfl,rfl,rfl,trivial⟩,(congrArg (zjo m) e),.refl⟩
   match i,hx with
   | 0,hx=>cases hx;exact ⟨_,rfl,rfl⟩
   | 1,hx=>cases hx;exact ⟨_,rfl,rfl⟩
   | 2,hx=>cases hx;exact ⟨_,rfl,rfl⟩
   | 3,hx=>cases hx;exact ⟨_,rfl,rfl⟩
   | i+4,hx=>cases hx
  have g:=g1 (.inl c);rotate_left;have g:=g1 (.inr d)
  all_goals
   refine ze.fresh _ _ hh rfl (ziz _) (.inr (ziA _)) ?_;refine ⟨[[i64 (itI m 4).w,i64 (itI m 4).h,.own 6]],rfl,Ob.o1 ?_⟩;refine Ob.mk (ziR (k:=4) rfl dC) ?_;refine ⟨4,g,kD [(0,some 8),(1,some 1),(2,some 2),(3,some 3),(4,some 4),(5,some 6),(6,some 5)] ⟨⟨_,rfl,rfl,fun i x hx=>?_⟩,rfl,rfl,rfl,rfl,rfl,rfl,trivial⟩,by show zix m - 4 < zix m - 3;omega⟩
   match i,hx with
   | 0,hx=>cases hx;exact ⟨_,rfl,rfl⟩
   | 1,hx=>cases hx;exact ⟨_,rfl,rfl⟩
   | 2,hx=>cases hx;exact ⟨_,rfl,rfl⟩
   | 3,hx=>cases hx;exact ⟨_,rfl,rfl⟩
   | 4,hx=>cases hx;exact ⟨_,rfl,rfl⟩
   | i+5,hx=>cases hx
 ·have hh:=ziF (itI m 4) (ziN hm 4);refine Br.mk (fun c=>?_) (fun c=>?_);rotate_left;refine Br.mk (fun d=>?_) (fun d=>?_);rotate_left
  ·have e:5=zix m:=g2 fun k=>k.elim c d
   refine ⟨⟨[(2,.own 0)],[(0,.garr 28 3 [rwI m 0,rwI m 1,rwI m 2,rwI m 3,rwI m 4]),(1,.arr 37 kd 4 (itI m 0).px),(2,.arr 37 kd 4 (itI m 1).px),(3,.arr 37 kd 4 (itI m 2).px),(4,.arr 37 kd 4 (itI m 3).px),(5,.arr 37 kd 4 (itI m 4).px)],6,33,0⟩,kD [(0,some 0),(1,some 1),(2,some 2),(3,some 3),(4,some 4),(5,some 5)] ⟨⟨_,rfl,rfl,fun i x hx=>?_⟩,rfl,rfl,rfl,rfl,rfl,trivial⟩,(congrArg (zjo m) e),.refl⟩
   match i,hx with
   | 0,hx=>cases hx;exact ⟨_,rfl,rfl⟩
   | 1,hx=>cases hx;exact ⟨_,rfl,rfl⟩
   | 2,hx=>cases hx;exact ⟨_,rfl,rfl⟩
   | 3,hx=>cases hx;exact ⟨_,rfl,rfl⟩
   | 4,hx=>cases hx;exact ⟨_,rfl,rfl⟩
   | i+5,hx=>cases hx
  have g:=g1 (.inl c);rotate_left;have g:=g1 (.inr d)
  all_goals
   refine ze.fresh _ _ hh rfl (ziz _) (.inr (ziA _)) ?_;refine ⟨[[i64 (itI m 5).w,i64 (itI m 5).h,.own 7]],rfl,Ob.o1 ?_⟩;refine Ob.mk (ziR (k:=5) rfl dC) ?_;refine ⟨5,g,kD [(0,some 9),(1,some 1),(2,some 2),(3,some 3),(4,some 4),(5,some 5),(6,some 7),(7,some 6)] ⟨⟨_,rfl,rfl,fun i x hx=>?_⟩,rfl,rfl,rfl,rfl,rfl,rfl,rfl,trivial⟩,by show zix m - 5 < zix m - 4;omega⟩
   match i,hx with
   | 0,hx=>cases hx;exact ⟨_,rfl,rfl⟩
   | 1,hx=>cases hx;exact ⟨_,rfl,rfl⟩
   | 2,hx=>cases hx;exact ⟨_,rfl,rfl⟩
   | 3,hx=>cases hx;exact ⟨_,rfl,rfl⟩
   | 4,hx=>cases hx;exact ⟨_,rfl,rfl⟩
   | 5,hx=>cases hx;exact ⟨_,rfl,rfl⟩
   | i+6,hx=>cases hx
 ·have hh:=ziF (itI m 5) (ziN hm 5);refine Br.mk (fun c=>?_) (fun c=>?_);rotate_left;refine Br.mk (fun d=>?_) (fun d=>?_);rotate_left
  ·have e:6=zix m:=g2 fun k=>k.elim c d
   refine ⟨⟨[(2,.own 0)],[(0,.garr 28 3 [rwI m 0,rwI m 1,rwI m 2,rwI m 3,rwI m 4,rwI m 5]),(1,.arr 37 kd 4 (itI m 0).px),(2,.arr 37 kd 4 (itI m 1).px),(3,.arr 37 kd 4 (itI m 2).px),(4,.arr 37 kd 4 (itI m 3).px),(5,.arr 37 kd 4 (itI m 4).px),(6,.arr 37 kd 4 (itI m 5).px)],7,33,0⟩,kD [(0,some 0),(1,some 1),(2,some 2),(3,some 3),(4,some 4),(5,some 5),(6,some 6)] ⟨⟨_,rfl,rfl,fun i x hx=>?_⟩,rfl,rfl,rfl,rfl,rfl,rfl,trivial⟩,(congrArg (zjo m) e),.refl⟩
   match i,hx with
   | 0,hx=>cases hx;exact ⟨_,rfl,rfl⟩
   | 1,hx=>cases hx;exact ⟨_,rfl,rfl⟩
   | 2,hx=>cases hx;exact ⟨_,rfl,rfl⟩
   | 3,hx=>cases hx;exact ⟨_,rfl,rfl⟩
   | 4,hx=>cases hx;exact ⟨_,rfl,rfl⟩
   | 5,hx=>cases hx;exact ⟨_,rfl,rfl⟩
   | i+6,hx=>cases hx
  have g:=g1 (.inl c);rotate_left;have g:=g1 (.inr d)
  all_goals
   refine ze.fresh _ _ hh rfl (ziz _) (.inr (ziA _)) ?_;refine ⟨[[i64 (itI m 6).w,i64 (itI m 6).h,.own 8]],rfl,Ob.o1 ?_⟩;refine Ob.mk (ziR (k:=6) rfl dC) ?_;refine ⟨6,g,kD [(0,some 10),(1,some 1),(2,some 2),(3,some 3),(4,some 4),(5,some 5),(6,some 6),(7,some 8),(8,some 7)] ⟨⟨_,rfl,rfl,fun i x hx=>?_⟩,rfl,rfl,rfl,rfl,rfl,rfl,rfl,rfl,trivial⟩,by show zix m - 6 < zix m - 5;omega⟩
   match i,hx with
   | 0,hx=>cases hx;exact ⟨_,rfl,rfl⟩
   | 1,hx=>cases hx;exact ⟨_,rfl,rfl⟩
   | 2,hx=>cases hx;exact ⟨_,rfl,rfl⟩
   | 3,hx=>cases hx;exact ⟨_,rfl,rfl⟩
   | 4,hx=>cases hx;exact ⟨_,rfl,rfl⟩
   | 5,hx=>cases hx;exact ⟨_,rfl,rfl⟩
   | 6,hx=>cases hx;exact ⟨_,rfl,rfl⟩
   | i+7,hx=>cases hx
 ·have hh:=ziF (itI m 6) (ziN hm 6);refine Br.mk (fun c=>?_) (fun c=>?_);rotate_left;refine Br.mk (fun d=>?_) (fun d=>?_);rotate_left
  ·have e:7=zix m:=g2 fun k=>k.elim c d
   refine ⟨⟨[(2,.own 0)],[(0,.garr 28 3 [rwI m 0,rwI m 1,rwI m 2,rwI m 3,rwI m 4,rwI m 5,rwI m 6]),(1,.arr 37 kd 4 (itI m 0).px),(2,.arr 37 kd 4 (itI m 1).px),(3,.arr 37 kd 4 (itI m 2).px),(4,.arr 37 kd 4 (itI m 3).px),(5,.arr 37 kd 4 (itI m 4).px),(6,.arr 37 kd 4 (itI m 5).px),(7,.arr 37 kd 4 (itI m 6).px)],8,33,0⟩,kD [(0,some 0),(1,some 1),(2,some 2),(3,some 3),(4,some 4),(5,some 5),(6,some 6),(7,some 7)] ⟨⟨_,rfl,rfl,fun i x hx=>?_⟩,rfl,rfl,rfl,rfl,rfl,rfl,rfl,trivial⟩,(congrArg (zjo m) e),.refl⟩
   match i,hx with
   | 0,hx=>cases hx;exact ⟨_,rfl,rfl⟩
   | 1,hx=>cases hx;exact ⟨_,rfl,rfl⟩
   | 2,hx=>cases hx;exact ⟨_,rfl,rfl⟩
   | 3,hx=>cases hx;exact ⟨_,rfl,rfl⟩
   | 4,hx=>cases hx;exact ⟨_,rfl,rfl⟩
   | 5,hx=>cases hx;exact ⟨_,rfl,rfl⟩
   | 6,hx=>cases hx;exact ⟨_,rfl,rfl⟩
   | i+7,hx=>cases hx
  have g:=g1 (.inl c);rotate_left;have g:=g1 (.inr d)
  all_goals
   refine ze.fresh _ _ hh rfl (ziz _) (.inr (ziA _)) ?_;refine ⟨[[i64 (itI m 7).w,i64 (itI m 7).h,.own 9]],rfl,Ob.o1 ?_⟩;refine Ob.mk (ziR (k:=7) rfl dC) ?_;refine ⟨7,g,kD [(0,some 11),(1,some 1),(2,some 2),(3,some 3),(4,some 4),(5,some 5),(6,some 6),(7,some 7),(8,some 9),(9,some 8)] ⟨⟨_,rfl,rfl,fun i x hx=>?_⟩,rfl,rfl,rfl,rfl,rfl,rfl,rfl,rfl,rfl,trivial⟩,by show zix m - 7 < zix m - 6;omega⟩
   match i,hx with
   | 0,hx=>cases hx;exact ⟨_,rfl,rfl⟩
   | 1,hx=>cases hx;exact ⟨_,rfl,rfl⟩
   | 2,hx=>cases hx;exact ⟨_,rfl,rfl⟩
   | 3,hx=>cases hx;exact ⟨_,rfl,rfl⟩
   | 4,hx=>cases hx;exact ⟨_,rfl,rfl⟩
   | 5,hx=>cases hx;exact ⟨_,rfl,rfl⟩
   | 6,hx=>cases hx;exact ⟨_,rfl,rfl⟩
   | 7,hx=>cases hx;exact ⟨_,rfl,rfl⟩
   | i+8,hx=>cases hx
 ·have hh:=ziF (itI m 7) (ziN hm 7);refine Br.mk (fun c=>?_) (fun c=>?_);rotate_left;refine Br.mk (fun d=>?_) (fun d=>?_);rotate_left
  ·have e:8=zix m:=g2 fun k=>k.elim c d
   refine ⟨⟨[(2,.own 0)],[(0,.garr 28 3 [rwI m 0,rwI m 1,rwI m 2,rwI m 3,rwI m 4,rwI m 5,rwI m 6,rwI m 7]),(1,.arr 37 kd 4 (itI m 0).px),(2,.arr 37 kd 4 (itI m 1).px),(3,.arr 37 kd 4 (itI m 2).px),(4,.arr 37 kd 4 (itI m 3).px),(5,.arr 37 kd 4 (itI m 4).px),(6,.arr 37 kd 4 (itI m 5).px),(7,.arr 37 kd 4 (itI m 6).px),(8,.arr 37 kd 4 (itI m 7).px)],9,33,0⟩,kD [(0,some 0),(1,some 1),(2,some 2),(3,some 3),(4,some 4),(5,some 5),(6,some 6),(7,some 7),(8,some 8)] ⟨⟨_,rfl,rfl,fun i x hx=>?_⟩,rfl,rfl,rfl,rfl,rfl,rfl,rfl,rfl,trivial⟩,(congrArg (zjo m) e),.refl⟩
   match i,hx with
   | 0,hx=>cases hx;exact ⟨_,rfl,rfl⟩
   | 1,hx=>cases hx;exact ⟨_,rfl,rfl⟩
   | 2,hx=>cases hx;exact ⟨_,rfl,rfl⟩
   | 3,hx=>cases hx;exact ⟨_,rfl,rfl⟩
   | 4,hx=>cases hx;exact ⟨_,rfl,rfl⟩
   | 5,hx=>cases hx;exact ⟨_,rfl,rfl⟩
   | 6,hx=>cases hx;exact ⟨_,rfl,rfl⟩
   | 7,hx=>cases hx;exact ⟨_,rfl,rfl⟩
   | i+8,hx=>cases hx
  ·exact absurd (g1 (.inl c)) oM
  ·exact absurd (g1 (.inr d)) oM
theorem zhz {σ:St} (k0:Nat) {m m':Mem} (h0:zl σ.M k0=some m)
  (hm:∀(S Pm:Nat->Prop) (ρ:zd) (w:World),kL S Pm ρ w k0 m->kL S Pm ρ w k0 m'):
  Sub σ ⟨σ.L,zJ σ.M k0 m',σ.nk,σ.nt,σ.n0⟩:=by
 intro E ρ a w hr;refine ⟨ρ,?_⟩;have hkeys:(zJ σ.M k0 m').map (·.1)=σ.M.map (·.1):=qx;have hown:∀b,Own (zJ σ.M k0 m') ρ b->Own σ.M ρ b:=fun b hb=>k8 hkeys.symm hb
 have hown':∀b,Own σ.M ρ b->Own (zJ σ.M k0 m') ρ b:=fun b hb=>k8 hkeys hb
 have eo:Own (zJ σ.M k0 m') ρ=Own σ.M ρ:=funext fun b=>propext ⟨hown b,hown' b⟩
 refine ⟨hr.size,hr.defers,fun t s hl=>?_,⟨fun k1 m1 h1=>?_,kv hkeys hr.mem.keys,fun k1 m1 k2 m2 v1 v2 b h1 h2=>?_,fun b hb=>hr.mem.old b (hown b hb),hr.mem.kp,hr.mem.glO hown⟩,
  hr.fresh,?_,hr.keep,hr.low⟩
 ·show t < σ.nt/\G (fun b=>E.Keep b∨Own (zJ σ.M k0 m') ρ b) (Own (zJ σ.M k0 m') ρ) ρ w s (a.tmps.getD t undef);rw [eo];exact hr.regs t s hl
 ·show kL (fun b=>E.Keep b∨Own (zJ σ.M k0 m') ρ b) (Own (zJ σ.M k0 m') ρ) ρ w k1 m1;rw [eo]
  rcases z4 hr.mem.keys _ h1 with ⟨_,h2⟩ | h2
  ·exact hr.mem.rel k1 m1 h2
  ·cases h2
   exact hm _ _ _ _ (hr.mem.rel k0 m (zg h0))
 ·have back:∀k1 m1,(k1,m1)∈zJ σ.M k0 m'->∃m',(k1,m')∈σ.M:=fun k1 m1 h=>by
   rcases z4 hr.mem.keys _ h with ⟨_,h2⟩ | h2
   ·exact ⟨m1,h2⟩
   ·cases h2;exact ⟨_,zg h0⟩
  obtain ⟨m1',h1'⟩:=back _ _ h1;obtain ⟨m2',h2'⟩:=back _ _ h2;exact hr.mem.apart k1 m1' k2 m2' v1 v2 b h1' h2'
 ·show Stp E.W0 (Own (zJ σ.M k0 m') ρ) E.ρ0 ρ E.w0 w;rw [eo];exact hr.stp
def zi0(u:Int×Int):List SV:=[i64 u.1,i64 u.2]
def spE(r:List (Int×Int)):List SV:=[.sl zi0 r]
abbrev ziJ:List SV:=[.val (.slice none 0 0)]
def spG(d:List (List (Int×Int)))(r:List SV)(k:Nat):List (List SV):=d.map spE++r::List.replicate k ziJ
theorem zkm{d:List (List (Int×Int))}{r x:List SV}{k n:Nat}(hn:n=d.length)(h:(spG d r k)[n]? =some x):x=r:=by
 subst hn;unfold spG at h;rw [List.getElem?_append_right (by rw [List.length_map];exact Nat.le_refl _),List.length_map,Nat.sub_self] at h;exact (Option.some.inj h).symm
theorem zkD{d:List (List (Int×Int))}{r s:List SV}{k n:Nat}(hn:n=d.length):(spG d r k).set n s=spG d s k:=by
 subst hn;unfold spG;rw [List.set_append_right _ _ (by rw [List.length_map];exact Nat.le_refl _),List.length_map,Nat.sub_self];rfl
theorem ziL(d:List (List (Int×Int)))(r:List SV)(k:Nat):(spG d r k).length=d.length+1+k:=by unfold spG;simp;omega
theorem zjO{tb:List (Nat×Option Nat)}{d:List (List (Int×Int))}{r s:List SV}{k:Nat}(h:ren.rens tb r=some s):
  (spG d s k).length=(spG d r k).length/\∀(j:Nat) x,(spG d r k)[j]? =some x->∃x',(spG d s k)[j]? =some x'/\ren.rens tb x=some x':=by
 refine ⟨by rw [ziL,ziL],fun j x hx=>?_⟩;unfold spG at hx ⊢;rw [List.getElem?_append] at hx ⊢
 by_cases c:j < (d.map spE).length
 ·rw [if_pos c] at hx ⊢;refine ⟨x,hx,?_⟩;rw [List.getElem?_map] at hx
  cases hy:d[j]? with
  | none=>rw [hy] at hx;cases hx
  | some y=>rw [hy] at hx;cases hx;rfl
 ·rw [if_neg c] at hx ⊢
  cases hj:j - (d.map spE).length with
  | zero=>rw [hj] at hx;cases hx;exact ⟨s,rfl,h⟩
  | succ i=>
   rw [hj] at hx;have hx:(List.replicate k ziJ)[i]? =some x:=hx;refine ⟨x,hx,?_⟩;have:=List.eq_of_mem_replicate (List.mem_of_getElem? hx);rw [this];rfl
theorem zkn{d:List (List (Int×Int))}{r:List SV}{k:Nat}(hr:r.length=1):∀x∈spG d r k,x.length=1:=fun x hx=>by
 unfold spG at hx
 rcases List.mem_append.1 hx with h | h
 ·obtain ⟨y,_,rfl⟩:=List.mem_map.1 h;rfl
 ·rcases List.mem_cons.1 h with rfl | h
  ·exact hr
  ·rw [List.eq_of_mem_replicate h];rfl
theorem zkE{d:List (List (Int×Int))}{ys:List (Int×Int)}{a k:Nat}(i j:Nat)(x':List SV)(s':SV)(hx:(spG d (spE ys) k)[i]? =some x')(hs:x'[j]? =some s'):
  ∃(x:List SV) (s:SV),(spG d [.own a] k)[i]? =some x/\x[j]? =some s/\(s'=s∨(s=.own a/\s'=.sl zi0 ys)):=by
 unfold spG at hx ⊢;rw [List.getElem?_append] at hx
 by_cases c:i < (d.map spE).length
 ·rw [if_pos c] at hx;exact ⟨x',s',by rw [List.getElem?_append,if_pos c];exact hx,hs,.inl rfl⟩
 ·rw [if_neg c] at hx
  cases hj:i - (d.map spE).length with
  | zero=>
   rw [hj] at hx
   cases hx
   match j,hs with
   | 0,hs=>cases hs;exact ⟨[.own a],.own a,by rw [List.getElem?_append,if_neg c,hj];rfl,rfl,.inr ⟨rfl,rfl⟩⟩
   | j+1,hs=>cases hs
  | succ n=>
   rw [hj] at hx;have hx:(List.replicate k ziJ)[n]? =some x':=hx;exact ⟨x',s',by rw [List.getElem?_append,if_neg c,hj];exact hx,hs,.inl rfl⟩
def ziy(size n:Int)(k:Nat):List (List (Int×Int)):=(List.range k).map fun (x:Nat)=>sps size n x size.toNat
theorem zi9(size n:Int)(k:Nat):(ziy size n k).length=k:=by unfold ziy;simp
theorem zjP(size n:Int)(k:Nat):ziy size n (k+1)=ziy size n k++[sps size n k size.toNat]:=by unfold ziy;rw [List.range_succ,List.map_append];rfl
theorem zkF(size n x:Int)(k:Nat):(sps size n x k).length<=k:=by
 unfold sps;rw [List.length_map];have:=List.length_filter_le (fun (i:Nat)=>decide (0 < ov i n x size)) (List.range k)
 rwa [List.length_range] at this
theorem zko(k:Nat):(List.replicate k ()).map (fun _=>ziJ)=List.replicate k ziJ:=by rw [List.map_replicate]
theorem zkp{σ:St}(k0:Nat){T:TypeId}{α:Type}{enc:α->List SV}{sz:Nat}{xs:List α}(h0:zl σ.M k0=some (.arr T enc sz xs)):Sub σ ⟨σ.L,zJ σ.M k0 (.garr T sz (xs.map enc)),σ.nk,σ.nt,σ.n0⟩:=by
 refine zhz k0 h0 fun S Pm ρ w ⟨v,cells,g1,g2,g3,g4,g5,g6⟩=>⟨v,cells,g1,by rw [List.length_map];exact g2,by rw [List.length_map];exact g3,g4,fun y hy=>?_,fun i j y s hy hs=>?_⟩
 ·obtain ⟨x,hx,rfl⟩:=List.mem_map.1 hy;exact g5 x hx
 ·rw [List.getElem?_map] at hy
  cases hx:xs[i]? with
  | none=>rw [hx] at hy;cases hy
  | some x=>
   rw [hx] at hy
   cases hy
   obtain ⟨u,h1,h2⟩:=g6 i j x s hx hs;exact ⟨u,h1,.d _ _ h2⟩
theorem zkG(d:List (List (Int×Int)))(r:List (Int×Int))(k:Nat):spG d (spE r) k=(d++[r]).map spE++List.replicate k ziJ:=by
 unfold spG;rw [List.map_append,List.append_assoc];rfl
theorem zkq(size:Int)(n:Nat)(hs:1<=size/\size<=4096)(hn:1<=n/\n<=4096):zf Try.prog 55 [i64 size,i64 (n:Int)] [] (.own 0) [(0,.arr 73 spE 1 (ziy size n n))]:=by
 refine zbb tok mix Try.func55 rfl rfl rfl ?_;refine ⟨Unit,fun _=>ziJ,(),rfl,Ob.mk ⟨dC,oM,Int.le_refl _,by show (n:Int)*24<=_;omega,oM⟩ ?_⟩;intro hl0;rw [Int.toNat_natCast,List.length_replicate];refine ⟨Nat,fun x=>⟨[(14,i64 (x:Int)),(13,i64 (n:Int)),(5,.own 0),(1,i64 (n:Int)),(0,i64 size)],[(0,.garr 73 1 ((ziy size n x).map spE++List.replicate (n - x) ziJ))],1,59,0⟩,fun x=>x<=n,fun x=>n - x,0,Nat.zero_le _,?_,?_⟩
 ·refine (zkp 0 (enc:=fun _:Unit=>ziJ) (xs:=List.replicate n ()) rfl).trans (kD [(0,some 0)] ⟨⟨_,rfl,?_⟩,trivial⟩);rw [zko];refine ⟨rfl,fun j x hx=>⟨x,hx,?_⟩⟩;have hx:(List.replicate n ziJ)[j]? =some x:=hx;rw [List.eq_of_mem_replicate (List.mem_of_getElem? hx)];rfl
 intro x hx;have hx:x<=n:=hx;refine Br.mk (fun g=>?_) (fun g=>?_);rotate_left
 ·have g:¬(x:Int) < (n:Int):=g;have e:x=n:=oM;refine ⟨_,zgb 0 spE (ziy size n x) ?_ (fun _ _=>rfl),some 0,.own 0 rfl,congrArg (fun k=>some (Mem.arr 73 spE 1 (ziy size n k))) e,fun _ _=>rfl⟩;exact congrArg (fun l=>some (Mem.garr 73 1 l)) (by rw [e,Nat.sub_self];exact List.append_nil _)
 have g:(x:Int) < (n:Int):=g;have hxs:0<=(x:Int)*size/\(x:Int)*size<=4096*4096:=zaU oM oM oM hs.2;have hxs1:((x:Int)+1)*size=(x:Int)*size+size:=by rw [Int.add_mul,Int.one_mul]
 (iterate 2 refine Ar.o ?_);refine Ar.fit (by rw [hxs1];omega) ?_;refine Dv.pos ⟨hxs.1,oM,by show (x:Int)*size<=9223372036854775807;omega⟩ ?_;have hlo:0<=(x:Int)*size / (n:Int):=Int.ediv_nonneg hxs.1 oM;obtain ⟨lo,hlo2⟩:∃lo:Nat,(x:Int)*size / (n:Int)=(lo:Int):=⟨((x:Int)*size / (n:Int)).toNat,oM⟩
 have hlsz:lo<=size.toNat:=by
  have a:(x:Int)*size / (n:Int)*(n:Int)<=(x:Int)*size:=Int.ediv_mul_le _ oM;have b:(x:Int)*size<=(n:Int)*size:=Int.mul_le_mul_of_nonneg_right oM oM;rw [hlo2] at a
  have c:(lo:Int)<=size:=by
   refine Int.not_lt.1 fun k=>?_
   have d:(size+1)*(n:Int)<=(lo:Int)*(n:Int):=Int.mul_le_mul_of_nonneg_right oM oM;rw [Int.add_mul,Int.one_mul,Int.mul_comm size] at d;omega
  omega
 rw [hlo2]
 have e0:sps size n x lo=[]:=by
  rw [zjj (Nat.zero_le lo) fun i _ hi=>zj5 oM oM];rfl
 have eg:List.replicate (n - x) ziJ=ziJ::List.replicate (n - x - 1) ziJ:=by
  rw [show n - x=(n - x - 1)+1 by omega,List.replicate_succ];rfl
 refine ⟨Nat,fun i=>⟨[(9,i64 (i:Int)),(8,i64 (((x:Int)+1)*size)),(7,i64 ((x:Int)*size)),(6,i64 (x:Int)),(14,i64 (x:Int)),(13,i64 (n:Int)),(5,.own 0),(1,i64 (n:Int)),(0,i64 size)],
  [(0,.garr 73 1 (spG (ziy size n x) [.own 1] (n - x - 1))),(1,.arr 77 zi0 2 (sps size n x i))],2,59,0⟩,fun i=>lo<=i/\i<=size.toNat,fun i=>size.toNat - i,lo,⟨Nat.le_refl _,hlsz⟩,?_,?_⟩
 ·refine kD [(0,some 0),(1,none)] ⟨⟨_,rfl,?_⟩,by show Nat.beq (sps size n x lo).length 0=true;rw [e0];rfl,trivial⟩;rw [eg];exact zjO (s:=ziJ) rfl
 rintro i ⟨h1,h2⟩
 have hin:0<=(i:Int)*(n:Int)/\(i:Int)*(n:Int)<=4096*4096:=zaU oM oM oM oM;have hin1:((i:Int)+1)*(n:Int)=(i:Int)*(n:Int)+(n:Int):=by rw [Int.add_mul,Int.one_mul]
 refine Ar.o ?_;refine Br.mk (fun k=>?_) (fun k=>?_)
 ·have k:(i:Int)*(n:Int) < ((x:Int)+1)*size:=k;obtain ⟨o1,o2⟩:=ov_at (size:=size) (n:=n) (x:=x) (i:=i) oM oM oM k;have hisz:=zkB (size:=size) (n:=n) (x:=x) (i:=i) oM oM oM k;have hlen:=zkF size n x i;have hd:=zi9 size n x;refine Ob.mk ⟨oM,by rw [ziL,hd];omega⟩ ?_;refine Ob.mk ⟨oM,by rw [ziL,hd];omega⟩ ?_;intro r hr;have hr:r=[.own 1]:=zkm hd.symm (show (spG (ziy size n x) [.own 1] (n - x - 1))[x]? =some r from hr);rw [hr];refine Ar.o ?_;refine Ar.fit (by rw [hin1];omega) ?_;refine Ar.o ?_;refine Ar.fit ?_ ?_
  ·show -9223372036854775808<=min (((x:Int)+1)*size) (((i:Int)+1)*(n:Int)) - max ((x:Int)*size) ((i:Int)*(n:Int))/\min (((x:Int)+1)*size) (((i:Int)+1)*(n:Int)) - max ((x:Int)*size) ((i:Int)*(n:Int))<=9223372036854775807;rw [hxs1,hin1];omega
  refine ⟨Int×Int,zi0,[((i:Int),min (((x:Int)+1)*size) (((i:Int)+1)*(n:Int)) - max ((x:Int)*size) ((i:Int)*(n:Int)))],rfl,Ob.mk ⟨rfl,dC,dC,dC,fun y hy=>by rw [List.mem_singleton.1 hy];exact ⟨rfl,rfl,rfl⟩⟩ ?_⟩;refine ⟨[((i:Int),min (((x:Int)+1)*size) (((i:Int)+1)*(n:Int)) - max ((x:Int)*size) ((i:Int)*(n:Int)))],rfl,Ob.mk ⟨by show (((sps size n x i).length:Int)+1)*16<=_;omega,by show (sps size n x i).length+1<=_;omega,dC,fun _ _=>rfl⟩ ?_⟩;refine Ob.mk ⟨oM,by rw [ziL,hd];omega⟩ ?_
  refine Ob.mk ⟨oM,by rw [ziL,hd];omega⟩ ?_;intro r2 hr2;have hr2:r2=[.own 1]:=zkm hd.symm (show (spG (ziy size n x) [.own 1] (n - x - 1))[x]? =some r2 from hr2);rw [hr2];refine Ar.o ?_
  refine ⟨i+1,⟨oM,oM⟩,vm [(0,some 0),(1,some 3)] rfl rfl rfl ⟨rfl,rfl,rfl,rfl,rfl,rfl,rfl,rfl,rfl,trivial⟩
   ⟨⟨spG (ziy size n x) [.own 3] (n - x - 1),congrArg (fun l=>some (Mem.garr 73 1 l)) (zkD (s:=[.own 3]) hd.symm),zjO rfl⟩,
   congrArg (fun l=>some (Mem.arr 77 zi0 2 l)) (show sps size n x i++_=sps size n x (i+1) by rw [zjS o1,o2]),trivial⟩,by dsimp only;omega⟩
 ·have k:¬(i:Int)*(n:Int) < ((x:Int)+1)*size:=k;have ef:sps size n x i=sps size n x size.toNat:=(zjj h2 fun j h1 _=>zj6 oM oM h1).symm;refine Ar.o ?_
  refine ⟨x+1,by show x+1<=n;omega,(zhf (sz0:=1) (T0:=73) 1 0 (enc:=zi0) (ys:=sps size n x i) rfl rfl (xs':=spG (ziy size n x) (spE (sps size n x i)) (n - x - 1)) (by rw [ziL,ziL]) (zkn rfl) zkE).trans
   (kD [(0,some 0)] ⟨⟨_,rfl,?_⟩,trivial⟩),by dsimp only;omega⟩
  have e1:(ziy size n (x+1)).map spE++List.replicate (n - (x+1)) ziJ=spG (ziy size n x) (spE (sps size n x i)) (n - x - 1):=by
   rw [zkG,zjP,ef,show n - (x+1)=n - x - 1 by omega]
  rw [e1];exact zjO (s:=spE (sps size n x i)) rfl
theorem zjW(size:Int)(n:Nat)(hs:1<=size/\size<=4096)(hn:1<=n/\n<=4096):zf Try.prog 55 [i64 size,i64 (n:Int)] [] (.sl spE (ziy size n n)) []:=(zkq size n hs hn).plain rfl
end Go.Gs
