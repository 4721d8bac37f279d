/- World transforms, both texts. -/
import Derived.Test.YtplllpkdmehklaaGreatDoorMA
import Derived.Test.YtplllpkdmehklaaGreatDoorMBU
import Derived.Test.YtplllpkdmehklaaGreatDoorMBS
import Derived.Test.YtplllpkdmehklaaGreatDoorMBO
import Derived.Test.YtplllpkdmehklaaGreatDoorMBA
import Derived.Test.YtplllpkdmehklaaGreatDoorMAZ
import Derived.Test.YtplllpkdmehklaaGreatDoorMBT
import Derived.Test.YtplllpkdmehklaaGreatDoorMAY
import Derived.Test.YtplllpkdmehklaaGreatDoorMBE
set_option maxRecDepth 100000
set_option maxHeartbeats 8000000
set_option linter.all false
namespace Go.Gs
open Go.Proofs
def zAN(n:Nd):Prop:=n.t.le 100/\zjG n/\n.path.length<=300/\n.clip.length<=300
def jH(s:Sc):Prop:=s.ns.length<=64->∀n∈s.ns,zAN n
theorem jH.tame{s:Sc}(h:jH s):zcA s:=fun hl n hn=>(h hl n hn).2.1
theorem zCb{s:Sc}(h:jH s)(hv:qx s)(k:Nat):(tAt s.ns k).le 100:=by
 unfold tAt
 cases hk:s.ns[k]? with
 | none=>exact zmu.up dC
 | some n=>exact (h (yV hv) n (List.mem_of_getElem? hk)).1
theorem zxZ{s:Sc}(h:jH s)(hv:qx s)(i:Int):∀t∈trs s.ns i,t.le 100:=fun t ht=>by
 obtain ⟨k,_,rfl⟩:=List.mem_map.1 ht;exact zCb h hv k
theorem zsD{s:Sc}(hv:qx s){i:Nat}(hi:i < s.ns.length):(trs s.ns i).length<=8:=by
 have hn:s.ns[i]? =some s.ns[i]:=List.getElem?_eq_getElem hi;have hd:=vz hv s.ns[i] (List.getElem_mem hi);unfold trs;rw [List.length_map,zbK (d:=s.ns[i].d.toNat) (zba hv) (by rw [yi hn];congr 1;omega)];omega
theorem zf4{l:List AF}:(qt l).1.le 100:=by
 unfold qt
 split
 ·rename_i h;have:=zjz (l:=l) (i:=l.length) (Nat.le_refl _) fun k hk=>h.2 k hk
  rw [List.take_length] at this;exact this.up dC
 ·exact yh _
theorem jz(s:Sc)(i:Int):(zw s i).1.le 100:=by
 unfold zw
 split
 ·exact yh _
 split
 ·exact yh _
 ·exact zf4
def zq3(r:AF×Int):SV:=.tup [.agg (afE r.1),i64 r.2]
theorem zap{s:Sc}{i:Int}{e:Int}(h:zw s i=(k7,e)):LE (.tup [.agg yL,i64 e]) (zq3 (zw s i)):=by
 rw [h];exact zU zal .refl
theorem zbL{s:Sc}{i:Int}(h:qx s)(h0:0<=i)(h1:i < s.ns.length):zw s i=qt (trs s.ns i):=by
 unfold zw;rw [if_neg (fun k=>k h),if_neg oM]
theorem zm9{s:Sc}{i:Nat}(h:qx s)(hi:i < s.ns.length):zxO s i=yD (zA s.ns) i:=by
 unfold zxO;rw [if_pos ⟨h,oM,oM⟩];rfl
def scO(s:Sc)(k:Nat):List SV:=[i64 s.w,i64 s.h,u8 s.bg.r,u8 s.bg.g,u8 s.bg.b,u8 s.bg.a,.own k]
abbrev qQ(l:List Nd):Mem:=.arr 51 ndE 47 l
theorem zf5(s:Sc)(i:Int)(ht:jH s):zd Tryz.prog 18 [.agg (scE s),i64 i] [] (zq3 (zw s i)) []:=by
 refine zc tok mix Tryz.func18 rfl rfl rfl ?_;refine zb.t (zm6 s ht.tame) ?_;refine Br.mk (fun h=>zap (if_pos h)) (fun h=>?_);have hv:qx s:=Decidable.not_not.1 h;refine Br.mk (fun h1=>zap ((if_neg h).trans (if_pos (.inl h1)))) (fun h1=>?_);intro hl0;refine Br.mk (fun h2=>zap ((if_neg h).trans (if_pos (.inr h2)))) (fun h2=>?_);have e0:=zbL hv (i:=i) oM oM;have hl64:=yV hv;have hle:=zxZ ht hv i
 have hlen:(trs s.ns i).length<=8:=by
  obtain ⟨k,rfl⟩:∃k:Nat,i=(k:Int):=⟨i.toNat,oM⟩;exact zsD hv oM
 refine ⟨List AF×Int,fun z=>⟨[(6,.own 2),(4,.loc 1 0),(2,.loc 0 0),(1,i64 z.2)],[(2,.arr 39 afE 24 z.1),(1,.box 39 yL),(0,.box 26 (scE s))],3,39,0⟩,
  fun z=>z.1++trs s.ns z.2=trs s.ns i/\ -1<=z.2/\z.2 < s.ns.length,fun z=>(z.2+1).toNat,([],i),⟨rfl,by dsimp only;omega,by dsimp only;omega⟩,?_,?_⟩
 ·exact zf [(0,some 0),(1,some 1),(2,none)]
 rintro ⟨p,j⟩ ⟨hp,hj1,hj2⟩
 have hp:p++trs s.ns j=trs s.ns i:=hp;have hj1: -1<=j:=hj1;have hj2:j < s.ns.length:=hj2;have hpl:p.length<=8:=by rw [← hp,List.length_append] at hlen;omega
 refine Br.mk (fun g=>?_) (fun g=>?_)
 ·have g:0<=j:=g;obtain ⟨k,rfl⟩:∃k:Nat,j=(k:Int):=⟨j.toNat,oM⟩;refine Ob.o ?_;intro x hx;have hx:s.ns[k]? =some x:=hx;refine ⟨AF,afE,[x.t],rfl,Ob.mk ⟨rfl,dC,dC,dC,fun y hy=>by rw [List.mem_singleton.1 hy];exact ⟨rfl,rfl,rfl⟩⟩ ?_⟩;refine ⟨[x.t],rfl,Ob.mk ⟨by show ((p.length:Int)+1)*_<=_;dsimp only;omega,by show p.length+1<=_;omega,dC,fun y hy=>by rw [List.mem_singleton.1 hy];rfl⟩ ?_⟩;refine zb.t (zpk s k ht.tame) ?_;have ep:=zm9 hv (i:=k) oM;have hpn:=zeb (zA s.ns) k
  refine ⟨(p++[x.t],yD (zA s.ns) k),⟨by dsimp only;rw [List.append_assoc,← hp,zjO hx];rfl,hpn.1,by dsimp only;omega⟩,z9 [(0,some 0),(1,some 1),(2,some 4)] ⟨rfl,rfl,rfl,congrArg (fun q=>some (i64 q)) ep,trivial⟩ ⟨rfl,rfl,rfl,trivial⟩,by dsimp only;omega⟩
 ·have g:¬0<=j:=g;have e1:p=trs s.ns i:=by rw [← hp,zm4 oM,List.append_nil]
  subst e1;refine zb.see 2 _ (zjA (trs s.ns i) hle) rfl rfl rfl ?_;rw [e0];exact zU .refl .refl
theorem zf6(s:Sc)(i:Int)(ht:jH s):zd Tryz.prog 18 [.agg (scO s 0),i64 i] [(0,qQ s.ns)] (zq3 (zw s i)) [(0,qQ s.ns)]:=by
 refine jM tok mix Tryz.func18 rfl rfl rfl (fun _ _=>rfl) rfl ?_;refine zb.t (zm6 s ht.tame) ?_;refine Br.mk (fun h=>⟨rfl,zap (if_pos h)⟩) (fun h=>?_);have hv:qx s:=Decidable.not_not.1 h;refine Br.mk (fun h1=>⟨rfl,zap ((if_neg h).trans (if_pos (.inl h1)))⟩) (fun h1=>?_);intro hl0;refine Br.mk (fun h2=>⟨rfl,zap ((if_neg h).trans (if_pos (.inr h2)))⟩) (fun h2=>?_);have e0:=zbL hv (i:=i) oM oM;have hl64:=yV hv;have hle:=zxZ ht hv i
 have hlen:(trs s.ns i).length<=8:=by
  obtain ⟨k,rfl⟩:∃k:Nat,i=(k:Int):=⟨i.toNat,oM⟩;exact zsD hv oM
 refine ⟨List AF×Int,fun z=>⟨[(6,.own 3),(4,.loc 2 0),(2,.loc 1 0),(1,i64 z.2)],[(3,.arr 39 afE 24 z.1),(2,.box 39 yL),(1,.box 26 (scO s 0)),(0,qQ s.ns)],4,39,1⟩,
  fun z=>z.1++trs s.ns z.2=trs s.ns i/\ -1<=z.2/\z.2 < s.ns.length,fun z=>(z.2+1).toNat,([],i),⟨rfl,by dsimp only;omega,by dsimp only;omega⟩,?_,?_⟩
 ·exact zf [(0,some 0),(1,some 1),(2,some 2),(3,none)]
 rintro ⟨p,j⟩ ⟨hp,hj1,hj2⟩
 have hp:p++trs s.ns j=trs s.ns i:=hp;have hj1: -1<=j:=hj1;have hj2:j < s.ns.length:=hj2;have hpl:p.length<=8:=by rw [← hp,List.length_append] at hlen;omega
 refine Br.mk (fun g=>?_) (fun g=>?_)
 ·have g:0<=j:=g;obtain ⟨k,rfl⟩:∃k:Nat,j=(k:Int):=⟨j.toNat,oM⟩;refine Ob.o ?_;refine Ob.o ?_;intro x hx;have hx:s.ns[k]? =some x:=hx;refine ⟨AF,afE,[x.t],rfl,Ob.mk ⟨rfl,dC,dC,dC,fun y hy=>by rw [List.mem_singleton.1 hy];exact ⟨rfl,rfl,rfl⟩⟩ ?_⟩;refine ⟨[x.t],rfl,Ob.mk ⟨by show ((p.length:Int)+1)*_<=_;dsimp only;omega,by show p.length+1<=_;omega,dC,fun y hy=>by rw [List.mem_singleton.1 hy];rfl⟩ ?_⟩;refine zb.t (zpk s k ht.tame) ?_;have ep:=zm9 hv (i:=k) oM;have hpn:=zeb (zA s.ns) k
  refine ⟨(p++[x.t],yD (zA s.ns) k),⟨by dsimp only;rw [List.append_assoc,← hp,zjO hx];rfl,hpn.1,by dsimp only;omega⟩,z9 [(0,some 0),(1,some 1),(2,some 2),(3,some 5)] ⟨rfl,rfl,rfl,congrArg (fun q=>some (i64 q)) ep,trivial⟩ ⟨rfl,rfl,rfl,rfl,trivial⟩,by dsimp only;omega⟩
 ·have g:¬0<=j:=g;have e1:p=trs s.ns i:=by rw [← hp,zm4 oM,List.append_nil]
  subst e1;refine zb.see 3 _ (zjA (trs s.ns i) hle) rfl rfl rfl ?_;rw [e0];exact ⟨rfl,zU .refl .refl⟩
theorem zuw{l:List AF}:(qt l).2=0∨(qt l).2=5:=by
 unfold qt;split
 ·exact .inl rfl
 ·exact .inr rfl
theorem vA{s:Sc}{i:Int}:inS s i↔¬((zw s i).2=18∨(zw s i).2=8):=by
 unfold zw
 by_cases h:qx s
 ·rw [if_neg (fun k=>k h)]
  by_cases h1:i < 0∨s.ns.length<=i
  ·rw [if_pos h1];exact ⟨fun k=>by have:=k.2;omega,fun k=>absurd (.inr rfl) k⟩
  ·rw [if_neg h1];refine ⟨fun _=>?_,fun _=>⟨h,oM,oM⟩⟩
   rcases zuw (l:=trs s.ns i) with e | e <;> rw [e] <;> decide
 ·rw [if_pos h];exact ⟨fun k=>absurd k.1 h,fun k=>absurd (.inl rfl) k⟩
theorem zlF{s:Sc}{i:Int}(h:¬inS s i):(zw s i).1=k7/\(zw s i).2≠0/\zE s i=zNd:=by
 refine ⟨?_,?_,if_neg h⟩
 all_goals
  unfold zw
  by_cases h0:qx s
  ·rw [if_neg (fun k=>k h0),if_pos (by
    rcases Int.lt_or_le i 0 with k | k
    ·exact .inl k
    ·exact .inr (Int.not_lt.1 fun q=>h ⟨h0,k,q⟩))]
   try (first | rfl | exact dC)
  ·rw [if_pos h0]
   try (first | rfl | exact dC)
theorem zbb{s:Sc}{i:Int}(h:inS s i){n:Nd}(hn:s.ns[i.toNat]? =some n):zE s i=n:=by
 unfold zE;rw [if_pos h,hn];rfl
theorem zec{s:Sc}(ht:jH s)(i:Int):(zE s i).path.length<=300/\(zE s i).clip.length<=300:=by
 by_cases h:inS s i
 ·obtain ⟨n,hn⟩:=u6 h;rw [zbb h hn];have:=ht (yV h.1) n (List.mem_of_getElem? hn);exact this.2.2
 ·rw [(zlF h).2.2];exact ⟨Nat.zero_le _,Nat.zero_le _⟩
def zhA(s:Sc)(i:Int):List SV:=afE (zw s i).1++(pr ((zw s i).2=0)::ndE (zE s i))
def z47:List SV:=i64 0::i64 0::i64 0::(yL++[.val (.slice none 0 0),i64 0,u8 0,i64 0,bl false,bl false,.val (.slice none 0 0),i64 0,.val (.slice none 0 0),
 i64 0,i64 0,i64 0,i64 0,.val (.slice none 0 0),i64 0,.val (.slice none 0 0),i64 0,i64 0,.val (.slice none 0 0),i64 0])
theorem zjT:LEs yL (afE k7):=show LEs (z4++(z4++(z4++(z4++(z4++z4))))) (afE k7) from LEs.append jw (LEs.append jw (LEs.append jw (LEs.append jw (LEs.append jw jw))))
theorem zz6:LEs z47 (ndE zNd):=
 .cons .refl (.cons .refl (.cons .refl (LEs.append zjT (.cons zC (.cons .refl (.cons .refl (.cons .refl (.cons (ze dC) (.cons (ze dC) (.cons zC (.cons .refl (.cons zC
  (.cons .refl (.cons .refl (.cons .refl (.cons .refl (.cons zC (.cons .refl (.cons zC (.cons .refl (.cons .refl (.cons zC (.cons .refl .nil)))))))))))))))))))))))
theorem zf7{s:Sc}{i:Int}(h:¬inS s i):LE (.agg (yL++(bl false::z47))) (.agg (zhA s i)):=by
 obtain ⟨h1,h2,h3⟩:=zlF h;unfold zhA;rw [h1,h3];exact qK (LEs.append zjT (.cons (ze h2) zz6))
theorem zgK(s:Sc)(i:Int)(ht:jH s):zd Tryz.prog 48 [.agg (scE s),i64 i] [] (.agg (zhA s i)) []:=by
 refine zc tok mix Tryz.func48 rfl rfl rfl ?_;refine zb.t (zf5 s i ht) ?_;refine Br.mk (fun h=>zf7 fun k=>vA.1 k (.inl h)) (fun h1=>?_);refine Br.mk (fun h=>zf7 fun k=>vA.1 k (.inr h)) (fun h2=>?_);have hin:inS s i:=vA.2 fun k=>k.elim h1 h2
 obtain ⟨n,hn⟩:=u6 hin;have hi:=(List.getElem?_eq_some_iff.1 hn).1;have hi0:=hin.2;refine Dr.k ?_;refine Ob.o ?_;intro x hx;have hx:x=n:=Option.some.inj ((show s.ns[i.toNat]? =some x from hx).symm.trans hn);rw [hx];have e:zhA s i=afE (zw s i).1++(pr ((zw s i).2=0)::ndE n):=by unfold zhA;rw [zbb hin hn]
 rw [e];exact .refl
theorem zhW(s:Sc)(i:Int)(ht:jH s):zd Tryz.prog 48 [.agg (scO s 0),i64 i] [(0,qQ s.ns)] (.agg (zhA s i)) [(0,qQ s.ns)]:=by
 refine jM tok mix Tryz.func48 rfl rfl rfl (fun _ _=>rfl) rfl ?_;refine zb.give [0] 0 [.agg (scO s 0),i64 i] [(0,qQ s.ns)] [(0,qQ s.ns)] (zq3 (zw s i)) (zf6 s i ht) LEs.refl rfl rfl rfl ⟨⟨_,rfl,rfl,trivial⟩,trivial⟩ rfl ⟨⟨rfl,trivial⟩,trivial⟩ ?_;refine Br.mk (fun h=>⟨rfl,zf7 fun k=>vA.1 k (.inl h)⟩) (fun h1=>?_);refine Br.mk (fun h=>⟨rfl,zf7 fun k=>vA.1 k (.inr h)⟩) (fun h2=>?_);have hin:inS s i:=vA.2 fun k=>k.elim h1 h2
 obtain ⟨n,hn⟩:=u6 hin;have hi:=(List.getElem?_eq_some_iff.1 hn).1;have hi0:=hin.2;refine Dr.k ?_;refine Ob.o ?_;refine Ob.o ?_;intro x hx;have hx:x=n:=Option.some.inj ((show s.ns[i.toNat]? =some x from hx).symm.trans hn);rw [hx];have e:zhA s i=afE (zw s i).1++(pr ((zw s i).2=0)::ndE n):=by unfold zhA;rw [zbb hin hn]
 rw [e];exact ⟨rfl,.refl⟩
theorem zgL(r:AF×Int)(l:List Sg)(ht:r.1.le 100)(hl:l.length<=300):zd Tryz.prog 49 [.agg (afE r.1++[pr (r.2=0)]),.sl sgE l] [] (.sl zu (yH r l)) []:=by
 refine zc tok mix Tryz.func49 rfl rfl rfl ?_;refine Br.mk (fun h=>by rw [show yH r l=[] from if_pos h];exact zC) (fun h=>?_);have e:yH r l=(ym l r.1 32).1:=if_neg h;refine zb.t (zzL l r.1 32 (ht.up dC) hl) ?_;rw [e];exact Br.mk (fun k=>by rw [zpg k];exact zC) (fun _=>.refl)
theorem zsE(s:Sc)(i:Int)(ht:jH s):zd Tryz.prog 26 [.agg (scE s),i64 i] [] (.sl zu (kK s i)) []:=by
 refine zc tok mix Tryz.func26 rfl rfl rfl ?_;refine zb.t (zgK s i ht) ?_;refine Br.mk (fun h=>by rw [show kK s i=[] from if_pos (.inl h)];exact zC) (fun h1=>?_);intro hl0;refine Br.mk (fun h=>by rw [show kK s i=[] from if_pos (.inr oM)];exact zC) (fun h2=>?_);refine zb.t (zgL (zw s i) (zE s i).path (jz s i) (zec ht i).1) ?_;rw [show kK s i=yH (zw s i) (zE s i).path from if_neg fun k=>k.elim h1 fun q=>h2 oM];exact .refl
theorem zpo(s:Sc)(i:Int)(ht:jH s):zd Tryz.prog 26 [.agg (scO s 0),i64 i] [(0,qQ s.ns)] (.sl zu (kK s i)) [(0,qQ s.ns)]:=by
 refine jM tok mix Tryz.func26 rfl rfl rfl (fun _ _=>rfl) rfl ?_;refine zb.give [0] 0 [.agg (scO s 0),i64 i] [(0,qQ s.ns)] [(0,qQ s.ns)] (.agg (zhA s i)) (zhW s i ht) LEs.refl rfl rfl rfl ⟨⟨_,rfl,rfl,trivial⟩,trivial⟩ rfl ⟨⟨rfl,trivial⟩,trivial⟩ ?_;refine Br.mk (fun h=>by rw [show kK s i=[] from if_pos (.inl h)];exact ⟨rfl,zC⟩) (fun h1=>?_);intro hl0;refine Br.mk (fun h=>by rw [show kK s i=[] from if_pos (.inr oM)];exact ⟨rfl,zC⟩) (fun h2=>?_);refine zb.t (zgL (zw s i) (zE s i).path (jz s i) (zec ht i).1) ?_
 rw [show kK s i=yH (zw s i) (zE s i).path from if_neg fun k=>k.elim h1 fun q=>h2 oM];exact ⟨rfl,.refl⟩
theorem vT(a b c d:Int):(ve a b c d).length<=300:=by
 unfold ve;split
 ·exact (by decide:5<=300)
 ·exact Nat.zero_le _
theorem zx0(s:Sc)(i:Int)(ht:jH s):zd Tryz.prog 31 [.agg (scE s),i64 i] [] (.sl zu (yj s i)) []:=by
 refine zc tok mix Tryz.func31 rfl rfl rfl ?_;refine zb.t (zgK s i ht) ?_;refine Br.mk (fun h=>by rw [show yj s i=[] from if_pos h];exact zC) (fun h=>?_);refine Dr.k ?_;refine zb.t (zi3 0 0 (zE s i).im.w (zE s i).im.h) ?_;refine zb.t (zgL (zw s i) (ve 0 0 (zE s i).im.w (zE s i).im.h) (jz s i) (vT _ _ _ _)) ?_;rw [show yj s i=yH (zw s i) (ve 0 0 (zE s i).im.w (zE s i).im.h) from if_neg h];exact .refl
def zf8(s:Sc)(i:Int):SV:=.tup [.sl zu (jR s i),pr (0 < (zE s i).clip.length)]
theorem zsF{s:Sc}{i:Int}(h:(zE s i).clip.length=0):LE (.tup [.val (.slice none 0 0),bl false]) (zf8 s i):=by
 unfold zf8;rw [show jR s i=[] from if_pos h];exact zU zC (ze oM)
theorem zpp{s:Sc}{i:Int}{v:SV}(h:(zE s i).clip.length≠0)(hv:LE v (.sl zu (yH (zw s i) (zE s i).clip))):LE (.tup [v,bl true]) (zf8 s i):=by
 unfold zf8;rw [show jR s i=yH (zw s i) (zE s i).clip from if_neg h];exact zU hv (zP oM)
theorem zsG(s:Sc)(i:Int)(ht:jH s):zd Tryz.prog 21 [.agg (scE s),i64 i] [] (zf8 s i) []:=by
 refine zc tok mix Tryz.func21 rfl rfl rfl ?_;refine zb.t (zgK s i ht) ?_;intro hl0;refine Br.mk (fun h=>zsF oM) (fun h1=>?_);refine zb.t (zgL (zw s i) (zE s i).clip (jz s i) (zec ht i).2) ?_;exact zpp oM .refl
theorem zjU(s:Sc)(i:Int)(ht:jH s):zd Tryz.prog 21 [.agg (scO s 0),i64 i] [(0,qQ s.ns)] (zf8 s i) [(0,qQ s.ns)]:=by
 refine jM tok mix Tryz.func21 rfl rfl rfl (fun _ _=>rfl) rfl ?_;refine zb.give [0] 0 [.agg (scO s 0),i64 i] [(0,qQ s.ns)] [(0,qQ s.ns)] (.agg (zhA s i)) (zhW s i ht) LEs.refl rfl rfl rfl ⟨⟨_,rfl,rfl,trivial⟩,trivial⟩ rfl ⟨⟨rfl,trivial⟩,trivial⟩ ?_;intro hl0;refine Br.mk (fun h=>⟨rfl,zsF oM⟩) (fun h1=>?_);refine zb.t (zgL (zw s i) (zE s i).clip (jz s i) (zec ht i).2) ?_;exact ⟨rfl,zpp oM .refl⟩
theorem zjV{k:Nat}(h0:k≠0)(h:k < 4294967296):zk k=[⟨k,h⟩]:=by
 rw [zc0 h0,show k / 4294967296=0 by omega,jc];congr 1;exact Fin.ext (Nat.mod_eq_of_lt h)
theorem zsH(n:Int):ofQ (n:Rat)=⟨ofZ n,ofZ 1⟩:=by unfold ofQ;rw [Rat.num_intCast,Rat.den_intCast];rfl
theorem qU{n:Int}(h:R64 n):(ofQ (n:Rat)).len<=3:=by
 have h1:=uZ h;have h2:=uZ (n:=1) dC;rw [zsH];show max (ofZ n).mag.length (ofZ 1).mag.length<=3;rw [zM,zM];omega
theorem zsI(n:Int)(h: -1048576<=n/\n<=1048576):zd Tryz.prog 58 [i64 n] [] (.agg (brE (ofQ (n:Rat)))) []:=by
 have e1:zk 1=[⟨1,dC⟩]:=zjV dC dC;rw [zsH];refine zc tok mix Tryz.func58 rfl rfl rfl ?_;refine ⟨Dig,dgE,[⟨1,dC⟩],rfl,Ob.o13 ?_⟩;have hone:LEs [bl false,.sl dgE [(⟨1,dC⟩:Dig)]] (biE (ofZ 1)):=.cons (ze dC) (.cons (qy (show _=zk 1 from e1.symm)) .nil);refine Br.mk (fun h0=>?_) (fun h0=>?_)
 ·have h0:¬n=0:=h0;refine Ar.o ?_;have hm:max n (-n)=(n.natAbs:Int):=oM;refine Ar.fit (show 0<=max n (-n)/\max n (-n)<=4294967295 by omega) ?_;have hk:n.natAbs < 4294967296:=oM;refine ⟨Dig,dgE,[⟨n.natAbs,hk⟩],congrArg (fun q=>[u32 q]) hm.symm,Ob.o13 ?_⟩;exact qK (.cons (zF (by show n < 0↔decide (n < 0)=true;simp)) (.cons (qy (show _=zk n.natAbs from (zjV oM hk).symm)) hone))
 ·have h0:n=0:=Decidable.not_not.1 h0;subst h0;exact qK (.cons (ze dC) (.cons (by rw [show (ofZ 0).mag=[] from jc];exact zC) hone))
def zx1(s:Sc)(i:Int)(p:Pt):Pt×Int:=if (zw s i).2≠0 then (zp,(zw s i).2) else kT (zw s i).1 p
def ntpE(s:Sc)(i:Int)(p:Pt):SV:=.tup [.agg (ptE (zx1 s i p).1),i64 (zx1 s i p).2]
theorem w_ntp(s:Sc)(i:Int)(p:Pt)(ht:jH s):zd Tryz.prog 28 [.agg (scE s),i64 i,.agg (ptE p)] [] (ntpE s i p) []:=by
 refine zc tok mix Tryz.func28 rfl rfl rfl ?_;refine zb.t (zf5 s i ht) ?_;refine Br.mk (fun h=>by rw [ntpE,show zx1 s i p=(zp,(zw s i).2) from if_pos h];exact zU .refl .refl) (fun h=>?_);refine zb.t (zce (zw s i).1 p ((jz s i).up dC)) ?_;rw [ntpE,show zx1 s i p=kT (zw s i).1 p from if_neg h];exact zU .refl .refl
theorem zCd{t:AF}(ht:t.le 100):(zgH t).1.le 10200:=by
 unfold zgH
 split
 ·exact yh _
 split
 ·exact yh _
 split
 ·exact yh _
 ·rename_i h _;exact (zsu ht dC h).up dC
def zhB(s:Sc)(i:Int)(p:Pt):(BR×BR)×Int:=if (zw s i).2≠0 then ((zBR,zBR),(zw s i).2) else if ¬zn p then ((zBR,zBR),6) else if (zgH (zw s i).1).2≠0 then ((zBR,zBR),(zgH (zw s i).1).2)
 else ((ofQ (y6 (zgH (zw s i).1).1 (p.x:Rat) (p.y:Rat)),ofQ (y7 (zgH (zw s i).1).1 (p.x:Rat) (p.y:Rat))),0)
def zx2(s:Sc)(i:Int)(p:Pt):SV:=.tup [.agg (brE (zhB s i p).1.1),.agg (brE (zhB s i p).1.2),i64 (zhB s i p).2]
theorem zAO:LE (.agg z4) (.agg (brE zBR)):=qK jw
theorem zna{s:Sc}{i:Int}{p:Pt}{e:Int}(h:zhB s i p=((zBR,zBR),e)):LE (.tup [.agg z4,.agg z4,i64 e]) (zx2 s i p):=by
 unfold zx2;rw [h];exact zb4 (.cons zAO (.cons zAO (.cons .refl .nil)))
theorem ptXb{p:Pt}(h:zn p): -1048576<=p.x/\p.x<=1048576:=by unfold zn at h;omega
theorem ptYb{p:Pt}(h:zn p): -1048576<=p.y/\p.y<=1048576:=by unfold zn at h;omega
theorem ptX{p:Pt}(h:zn p):R64 p.x:=by have:=ptXb h;omega
theorem ptY{p:Pt}(h:zn p):R64 p.y:=by have:=ptYb h;omega
theorem zCe(s:Sc)(i:Int)(p:Pt)(ht:jH s):zd Tryz.prog 27 [.agg (scO s 0),i64 i,.agg (ptE p)] [(0,qQ s.ns)] (zx2 s i p) [(0,qQ s.ns)]:=by
 refine jM tok mix Tryz.func27 rfl rfl rfl (fun _ _=>rfl) rfl ?_;refine zb.give [0] 0 [.agg (scO s 0),i64 i] [(0,qQ s.ns)] [(0,qQ s.ns)] (zq3 (zw s i)) (zf6 s i ht) LEs.refl rfl rfl rfl ⟨⟨_,rfl,rfl,trivial⟩,trivial⟩ rfl ⟨⟨rfl,trivial⟩,trivial⟩ ?_;refine Br.mk (fun h=>⟨rfl,zna (if_pos h)⟩) (fun h1=>?_);refine zb.t (kS p) ?_;refine Br.mk (fun h=>⟨rfl,zna ((if_neg h1).trans (if_pos h))⟩) (fun h2=>?_);have hp:zn p:=Decidable.not_not.1 h2;refine zb.t (zxz (zw s i).1 (jz s i)) ?_
 refine Br.mk (fun h=>⟨rfl,zna ((if_neg h1).trans ((if_neg h2).trans (if_pos h)))⟩) (fun h3=>?_);have hx:R64 p.x:=ptX hp;have hy:R64 p.y:=ptY hp;have il:=zCd (jz s i);refine Dr.k ?_;refine zb.t (zsI p.x (ptXb hp)) ?_;refine zb.t (zsI p.y (ptYb hp)) ?_;refine zb.t (zhN (zgH (zw s i).1).1 (ofQ (p.x:Rat)) (ofQ (p.y:Rat)) (il.up dC) (by have:=qU hx;omega) (by have:=qU hy;omega)) ?_;rw [zV,zV];refine Dr.d ?_;refine Ob.mk (by kernel_rfl) ?_;rw [zx2,show zhB s i p=_ from (if_neg h1).trans ((if_neg h2).trans (if_neg h3))]
 exact ⟨rfl,zb4 (.cons .refl (.cons .refl (.cons .refl .nil)))⟩
theorem zz7(xs:List Pt):zgY (.arr 63 ptE 2 xs):=fun _ _=>rfl
theorem zz8(n:Int)(h0:0<=n)(h1:n<=4096):zd Tryz.prog 127 [.val (.slice none 0 0),i64 n] [] (.own 0) [(0,.arr 63 ptE 2 [])]:=by
 refine qS tok mix Tryz.func127 rfl rfl rfl ?_;refine Br.mk (fun h=>absurd h oM) (fun _=>?_);refine Ar.fit dC ?_;refine Ar.o ?_;refine Br.mk (fun h=>?_) (fun h=>?_)
 ·refine Ob.mk ⟨rfl,rfl,rfl⟩ ?_;refine ⟨Pt,ptE,zp,rfl,Ob.mk ⟨dC,h,(by show _*(16:Int)<=_;omega),oM⟩ ?_⟩;refine Sl.keep (Ob.mk ⟨rfl,Int.le_refl _,oM⟩ ?_);exact ⟨some 1,.own _ rfl,rfl,fun _ _=>rfl⟩
 ·exact ⟨none,.nil rfl,rfl⟩
theorem zux{rs:List (List Pt)}{i:Nat}{x:List Pt}(h:rs[i]? =some x):(rs.take (i+1)).flatten=(rs.take i).flatten++x:=by
 rw [List.take_add_one,h];simp
theorem zpq(rs:List (List Pt)):rs.flatten.length=qh rs:=by unfold qh;rw [List.length_flatten]
theorem zuy(rs:List (List Pt))(hc:qh rs<=4096):zd Tryz.prog 83 [.sl zu rs] [] (.own 0) [(0,.arr 63 ptE 2 rs.flatten)]:=by
 refine qS tok mix Tryz.func83 rfl rfl rfl ?_;intro hl0;refine ⟨Nat,fun i=>⟨[(11,i64 (i:Int)),(10,i64 (rs.length:Int)),(9,.sl zu rs),(3,i64 (qh (rs.take i):Int)),(0,.sl zu rs)],[],0,36,0⟩,fun i=>i<=rs.length,fun i=>rs.length - i,0,Nat.zero_le _,zf [],?_⟩;intro i hi;have hi:i<=rs.length:=hi;refine Br.mk (fun g=>?_) (fun g=>?_)
 ·have g:(i:Int) < rs.length:=g;refine Ob.o ?_;intro x hx;have hx:rs[i]? =some x:=hx;have e:=zam hx;have:=zd3 rs (i+1);intro hl1;refine Ar.o ?_;refine Br.mk (fun h=>absurd h oM) (fun _=>?_);refine Ar.o ?_;exact ⟨i+1,by show i+1<=_;omega,z9 [] ⟨rfl,rfl,rfl,congrArg (fun n=>some (i64 n)) (by rw [e];omega),rfl,trivial⟩ trivial,by dsimp only;omega⟩
 ·have g:¬(i:Int) < rs.length:=g;have et:rs.take i=rs:=List.take_of_length_le oM;refine zb.fresh _ _ (zz8 (qh (rs.take i):Int) oM (by rw [et];omega)) rfl (zz7 _) (.inl rfl) ?_;intro hl2;refine ⟨Nat,fun i=>⟨[(27,i64 (i:Int)),(26,i64 (rs.length:Int)),(25,.sl zu rs),(6,.own 0)],[(0,.arr 63 ptE 2 (rs.take i).flatten)],1,36,0⟩,fun i=>i<=rs.length,fun i=>rs.length - i,0,Nat.zero_le _,zf [(0,some 0)],?_⟩;intro j hj;have hj:j<=rs.length:=hj;refine Br.mk (fun g=>?_) (fun g=>?_)
  ·have g:(j:Int) < rs.length:=g;refine Ob.o ?_;intro x hx;have hx:rs[j]? =some x:=hx;have e:=zam hx;have k1:=zd3 rs (j+1);have k2:=zpq (rs.take j);refine ⟨x,rfl,Ob.mk ⟨(by show ((rs.take j).flatten.length+x.length:Int)*(16:Int)<=_;omega),oM,dC,fun _ _=>rfl⟩ ?_⟩;refine Ar.o ?_;exact ⟨j+1,by show j+1<=_;omega,zY [(0,some 1)] ⟨congrArg (fun q=>some (Mem.arr 63 ptE 2 q)) (zux hx).symm,trivial⟩,by dsimp only;omega⟩
  ·have g:¬(j:Int) < rs.length:=g;exact ⟨some 0,.own _ rfl,congrArg (fun q=>some (Mem.arr 63 ptE 2 q)) (by rw [List.take_of_length_le (show rs.length<=j by omega)]),fun _ _=>rfl⟩
def u7(rs:List (List Pt)):Prop:=rs.flatten≠[]/\kq rs
instance (rs:List (List Pt)):Decidable (u7 rs):=inferInstanceAs (Decidable (_/\_))
def loR(rs:List (List Pt)):Pt:=if u7 rs then bnd mnP rs.flatten else zp
def hiR(rs:List (List Pt)):Pt:=if u7 rs then bnd mxP rs.flatten else zp
def pbE(rs:List (List Pt)):SV:=.tup [.agg (ptE (loR rs)),.agg (ptE (hiR rs)),pr (u7 rs)]
theorem zx3{rs:List (List Pt)}(h:¬u7 rs):LE (.tup [.agg [i64 0,i64 0],.agg [i64 0,i64 0],bl false]) (pbE rs):=by
 unfold pbE loR hiR;rw [if_neg h,if_neg h];exact zb4 (.cons .refl (.cons .refl (.cons (ze h) .nil)))
theorem zCf(rs:List (List Pt))(hc:qh rs<=4096):zd Tryz.prog 50 [.sl zu rs] [] (pbE rs) []:=by
 refine zc tok mix Tryz.func50 rfl rfl rfl ?_;refine zb.t ((zuy rs hc).plain rfl) ?_;generalize hq:rs.flatten=q;have hql:q.length<=4096:=by rw [← hq,zpq];exact hc
 intro hl0;refine Br.mk (fun h=>zx3 fun k=>k.1 (by rw [hq];exact List.eq_nil_of_length_eq_zero oM)) (fun h1=>?_);refine zb.t (zi9 rs fun r hr=>?_) ?_
 ·obtain ⟨j,hj,e⟩:=List.getElem_of_mem hr;have k1:=zam (rs:=rs) (i:=j) (List.getElem?_eq_getElem hj);have k2:=zd3 rs (j+1);rw [e] at k1;omega
 refine Br.mk (fun h=>zx3 fun k=>h k.2) (fun h2=>?_);have h2:kq rs:=Decidable.not_not.1 h2;have hne:q≠[]:=fun k=>h1 (by rw [k];rfl)
 have hs:u7 rs:=⟨by rw [hq];exact hne,h2⟩
 obtain ⟨p0,t0,hq0⟩:∃p t,q=p::t:=by
  cases q with
  | nil=>exact absurd rfl hne
  | cons p t=>exact ⟨p,t,rfl⟩
 have hp0:q[0]? =some p0:=by rw [hq0];rfl
 refine Dr.d ?_;refine Ob.o ?_;intro x hx;have hx:x=p0:=Option.some.inj ((show q[0]? =some x from hx).symm.trans hp0);rw [hx];refine Ob.o ?_;intro y hy;have hy:y=p0:=Option.some.inj ((show q[0]? =some y from hy).symm.trans hp0);rw [hy];refine Ob.mk (by kernel_rfl) ?_;intro hl1
 refine ⟨Nat,fun i=>⟨[(30,i64 (i:Int)),(29,i64 (q.length:Int)),(28,.sl ptE q),(7,.loc 3 0),(6,.loc 2 0),(3,.loc 1 0),(2,.loc 0 0)],
  [(3,.box 63 (ptE ((q.take i).foldl mxP p0))),(2,.box 63 (ptE ((q.take i).foldl mnP p0))),(1,.box 63 (ptE zp)),(0,.box 63 (ptE zp))],4,59,0⟩,
  fun i=>i<=q.length,fun i=>q.length - i,0,Nat.zero_le _,?_,?_⟩
 ·exact zf [(0,some 0),(1,some 1),(2,some 2),(3,some 3)]
 intro i hi;have hi:i<=q.length:=hi;refine Br.mk (fun g=>?_) (fun g=>?_)
 ·have g:(i:Int) < q.length:=g;refine Ob.o ?_;intro z hz;have hz:q[i]? =some z:=hz;have e:∀f:Pt->Pt->Pt,(q.take (i+1)).foldl f p0=f ((q.take i).foldl f p0) z:=fun f=>by rw [List.take_add_one,hz,List.foldl_append];rfl
  refine Ar.o ?_
  exact ⟨i+1,by show i+1<=_;omega,qw [(0,some 0),(1,some 1),(2,some 2),(3,some 3)] rfl rfl rfl ⟨rfl,rfl,rfl,rfl,rfl,rfl,rfl,trivial⟩
   ⟨congrArg (fun p=>some (Mem.box 63 (ptE p))) (e mxP).symm,congrArg (fun p=>some (Mem.box 63 (ptE p))) (e mnP).symm,rfl,rfl,trivial⟩,by dsimp only;omega⟩
 ·have g:¬(i:Int) < q.length:=g;have et:q.take i=q:=List.take_of_length_le oM;refine Dr.d ?_;refine Ob.mk (by kernel_rfl) ?_
  have eb:∀f:Pt->Pt->Pt,(q.take i).foldl f p0=bnd f rs.flatten:=fun f=>by
   rw [et,hq];unfold bnd;rw [hq0];rfl
  rw [eb,eb];unfold pbE loR hiR;rw [if_pos hs,if_pos hs];exact zb4 (.cons .refl (.cons .refl (.cons (zP hs) .nil)))
def uJ(st:Option (Pt×Pt))(rs:List (List Pt)):Option (Pt×Pt):=if ¬u7 rs then st else match st with
 | none=>some (mnP (loR rs) (loR rs),mxP (hiR rs) (hiR rs))
 | some (a,b)=>some (mnP a (loR rs),mxP b (hiR rs))
def zjW(l:List (List (List Pt))):Option (Pt×Pt):=l.foldl uJ none
def oLo(st:Option (Pt×Pt)):Pt:=match st with | none=>zp | some (a,_)=>a
def oHi(st:Option (Pt×Pt)):Pt:=match st with | none=>zp | some (_,b)=>b
def zpr(st:Option (Pt×Pt))(u v:Int):Pt:=match st with
 | none=>zp
 | some (a,b)=>⟨(zaJ a b u 256).x,(zaJ a b v 256).y⟩
def jV(s:Sc)(i:Int):List (List (List Pt)):=[kK s i,qz s i,yj s i]
def ancE(s:Sc)(i u v:Int):SV:=.tup [.agg (ptE (zpr (zjW (jV s i)) u v)),pr ((zjW (jV s i)).isSome=true)]
def zx4(l:List (List Pt)):List SV:=[.sl zu l]
theorem zgM (s:Sc) (i u v:Int) (ht:jH s) (hS:zd Tryz.prog 30 [.agg (scE s),i64 i] [] (.sl zu (qz s i)) [])
  (hz:∀l∈jV s i,qh l<=4096):zd Tryz.prog 22 [.agg (scE s),i64 i,i64 u,i64 v] [] (ancE s i u v) []:=by
 refine zc tok mix Tryz.func22 rfl rfl rfl ?_;refine Dr.d ?_;refine zb.t (zsE s i ht) ?_;refine zb.t hS ?_;refine zb.t (zx0 s i ht) ?_;refine ⟨List (List Pt),zx4,jV s i,rfl,Ob.o0 ?_⟩;intro hl0;refine Ob.mk (by kernel_rfl) ?_;have hl3:(jV s i).length=3:=rfl;generalize hL:jV s i=L at hz hl3 ⊢
 refine ⟨Nat×Option (Pt×Pt),fun q=>⟨[(29,i64 (q.1:Int)),(28,i64 (L.length:Int)),(27,.own 4),(12,pr (q.2.isSome=true)),(11,.loc 3 0),(10,.loc 2 0),(8,.loc 1 0),(4,.loc 0 0),(3,i64 v),(2,i64 u)],
  [(4,.arr 56 zx4 1 L),(3,.box 63 (ptE (oHi q.2))),(2,.box 63 (ptE (oLo q.2))),(1,.box 63 (ptE zp)),(0,.box 26 (scE s))],5,82,0⟩,
  fun q=>q.1<=L.length/\q.2=(L.take q.1).foldl uJ none,fun q=>L.length - q.1,(0,none),⟨Nat.zero_le _,rfl⟩,?_,?_⟩
 ·exact (qW (t:=12) rfl (ze (q:=(none:Option (Pt×Pt)).isSome=true) dC)).trans (zf [(0,some 0),(1,some 1),(2,some 2),(3,some 3),(4,some 4)])
 rintro ⟨j,st⟩ ⟨h1,h2⟩
 have h1:j<=L.length:=h1;have h2:st=(L.take j).foldl uJ none:=h2;refine Br.mk (fun g=>?_) (fun g=>?_)
 ·have g:(j:Int) < L.length:=g;refine Ob.mk (by dsimp only;omega) ?_;refine Ob.mk (by dsimp only;omega) ?_;intro x hx;have hx:L[j]? =some x:=hx;have hxz:=hz x (List.mem_of_getElem? hx);have en:uJ st x=(L.take (j+1)).foldl uJ none:=by rw [h2,List.take_add_one,hx,List.foldl_append];rfl
  have inv:(j+1,uJ st x).1<=L.length/\(j+1,uJ st x).2=(L.take (j+1,uJ st x).1).foldl uJ none:=⟨by show j+1<=_;omega,en⟩;refine zb.t (zCf x hxz) ?_;refine Br.mk (fun h3=>?_) (fun h3=>?_)
  ·refine Ar.fit (by dsimp only;omega) ?_;have es:uJ st x=st:=if_pos h3;refine ⟨(j+1,uJ st x),inv,qw [(0,some 0),(1,some 1),(2,some 2),(3,some 3),(4,some 4)] rfl rfl rfl ?_ ?_,by show L.length - (j+1) < L.length - j;omega⟩
   ·rw [es];exact ⟨rfl,rfl,rfl,rfl,rfl,rfl,rfl,rfl,rfl,rfl,trivial⟩
   ·rw [es];exact ⟨rfl,rfl,rfl,rfl,rfl,trivial⟩
  ·refine Br.mk (fun h4=>?_) (fun h4=>?_)
   ·have h4:st=none:=by
     cases st with
     | none=>rfl
     | some a=>exact absurd rfl h4
    subst h4;have es:uJ none x=some (mnP (loR x) (loR x),mxP (hiR x) (hiR x)):=if_neg h3;refine Dr.d ?_;refine Ob.mk (by kernel_rfl) ?_;refine Ar.fit (by dsimp only;omega) ?_;refine ⟨(j+1,uJ none x),inv,(qW (t:=12) rfl (zP (q:=(uJ none x).isSome=true) (by rw [es];rfl))).trans (qw [(0,some 0),(1,some 1),(2,some 2),(3,some 3),(4,some 4)] rfl rfl rfl ⟨rfl,rfl,rfl,rfl,rfl,rfl,rfl,rfl,rfl,rfl,trivial⟩ ?_),by show L.length - (j+1) < L.length - j;omega⟩;rw [es];exact ⟨rfl,rfl,rfl,rfl,rfl,trivial⟩
   ·obtain ⟨⟨a,b⟩,h4⟩:∃a,st=some a:=by
     cases st with
     | none=>exact absurd (show ¬(none:Option (Pt×Pt)).isSome=true by decide) h4
     | some a=>exact ⟨a,rfl⟩
    subst h4;have es:uJ (some (a,b)) x=some (mnP a (loR x),mxP b (hiR x)):=if_neg h3;refine Ar.fit (by dsimp only;omega) ?_;refine ⟨(j+1,uJ (some (a,b)) x),inv,(qW (t:=12) rfl (zF (q:=(uJ (some (a,b)) x).isSome=true) ⟨fun _=>by rw [es];rfl,fun _=>rfl⟩)).trans (qw [(0,some 0),(1,some 1),(2,some 2),(3,some 3),(4,some 4)] rfl rfl rfl ⟨rfl,rfl,rfl,rfl,rfl,rfl,rfl,rfl,rfl,rfl,trivial⟩ ?_),by show L.length - (j+1) < L.length - j;omega⟩;rw [es];exact ⟨rfl,rfl,rfl,rfl,rfl,trivial⟩
 ·have g:¬(j:Int) < L.length:=g;rw [List.take_of_length_le oM] at h2;have e0:zjW (jV s i)=st:=by rw [hL,h2];rfl
  unfold ancE;rw [e0];clear h2 e0;refine Br.mk (fun h4=>?_) (fun h4=>?_)
  ·have h4:st=none:=by
    cases st with
    | none=>rfl
    | some a=>exact absurd rfl h4
   subst h4;exact zU .refl (ze (show ¬(none:Option (Pt×Pt)).isSome=true by decide))
  ·obtain ⟨⟨a,b⟩,h4⟩:∃a,st=some a:=by
    cases st with
    | none=>exact absurd (show ¬(none:Option (Pt×Pt)).isSome=true by decide) h4
    | some a=>exact ⟨a,rfl⟩
   subst h4;refine Dr.d ?_;refine zb.t (zmz a b u 256) ?_;refine zb.t (zmz a b v 256) ?_;refine Ob.mk (by kernel_rfl) ?_;exact zU .refl (zP rfl)
theorem zps(s:Sc)(i:Int)(ht:jH s)(h:(zE s i).k≠2∨(zE s i).strk.length=0):zd Tryz.prog 30 [.agg (scE s),i64 i] [] (.val (.slice none 0 0)) []:=by
 refine zc tok mix Tryz.func30 rfl rfl rfl ?_;refine zb.t (zgK s i ht) ?_;refine Br.mk (fun _=>.refl) (fun h1=>?_);intro hl0;refine Br.mk (fun _=>.refl) (fun h2=>?_);exact (h.elim h1 fun k=>h2 oM).elim
theorem zz9(s:Sc)(i:Int)(ht:jH s)(h:(zE s i).k≠3):zd Tryz.prog 31 [.agg (scE s),i64 i] [] (.val (.slice none 0 0)) []:=by
 refine zc tok mix Tryz.func31 rfl rfl rfl ?_;refine zb.t (zgK s i ht) ?_;exact Br.mk (fun _=>.refl) (fun h1=>absurd h h1)
theorem zdC{s:Sc}{i:Int}(h:(zE s i).k≠2∨(zE s i).strk.length=0):qz s i=[]:=if_pos h
def zjX(t:AF):List BR:=[t.a,t.b,t.c,t.d,t.e,t.f]
theorem zsJ(t:AF)(n:Nat):t.le n↔∀x∈zjX t,x.len<=n:=by
 unfold zjX AF.le;simp
instance instLe51 (t:AF) (n:Nat):Decidable (t.le n):=inferInstanceAs (Decidable (_/\_))
theorem zsK(t:AF):zd Tryz.prog 23 [.agg (afE t)] [] (pr (t.le 12)) []:=by
 refine zc tok mix Tryz.func23 rfl rfl rfl ?_;refine ⟨BR,brE,zjX t,rfl,Ob.o0 ?_⟩;refine ⟨Nat,fun i=>⟨[(3,.own 0),(4,i64 (i:Int))],[(0,.arr 37 brE 4 (zjX t))],1,42,0⟩,fun i=>i<=(zjX t).length/\∀x∈(zjX t).take i,x.len<=12,fun i=>(zjX t).length - i,0,⟨Nat.zero_le _,fun x hx=>by cases hx⟩,?_,?_⟩
 ·exact zf [(0,some 1)]
 rintro i ⟨h1,h2⟩
 intro hl1;refine Br.mk (fun g=>?_) (fun g=>?_)
 ·have g:(i:Int) < (zjX t).length:=g;refine Ob.o ?_;refine Ob.o ?_;intro x hx;have hx:(zjX t)[i]? =some x:=hx;have no:¬x.len<=12->¬t.le 12:=fun h k=>h ((zsJ t 12).1 k x (List.mem_of_getElem? hx))
  intro hl2;refine Br.mk (fun b=>?_) (fun b=>?_)
  ·have b:(12:Int) < x.num.mag.length:=b;exact ze (no (by unfold BR.len;omega))
  have b:¬(12:Int) < x.num.mag.length:=b;refine Ob.o ?_;refine Ob.o ?_;intro x' hx';have ex:x'=x:=Option.some.inj ((show (zjX t)[i]? =some x' from hx').symm.trans hx);rw [ex];intro hl3;refine Br.mk (fun c=>?_) (fun c=>?_)
  ·have c:(12:Int) < x.den.mag.length:=c;exact ze (no (by unfold BR.len;omega))
  have c:¬(12:Int) < x.den.mag.length:=c;refine Ar.o ?_;exact ⟨i+1,⟨oM,vw hx h2 (by unfold BR.len;omega)⟩,zf [(0,some 0)],by dsimp only;omega⟩
 ·have g:¬(i:Int) < (zjX t).length:=g;rw [List.take_of_length_le oM] at h2;exact zP ((zsJ t 12).2 h2)
instance (lo hi p:Pt):Decidable (inB lo hi p):=inferInstanceAs (Decidable (_/\_))
theorem q_one:((1:Int):Rat)=1:=rfl
theorem q_zero:((0:Int):Rat)=0:=rfl
end Go.Gs
