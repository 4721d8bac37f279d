/- What the closed facts of a row ask of the program alone, each by itself. -/
import Derived.JoinedOf
import Derived.LaidByTextLater
import Derived.SevenTiedAt
import Derived.LaidOnce
import Derived.Test.YtlckjbeknkkllaaGreatDoorMAV
set_option maxRecDepth 100000
set_option maxHeartbeats 8000000
set_option linter.all false
namespace Go.Gs
open Proofs.Tryz
open Go.Proofs Go.Proofs.YtlckjbeknkkllaaGreatDoor
def dflt:OpenClaim:={ program:= "",sum:= "",func:= "",spec:= "" }
def j_laid:laidOutB Tryz.pinned.checked.prog=true:=by kernel_rfl
def j_enter:Tryz.pinned.checked.prog.mayEnter=true:=by kernel_rfl
def j_lifts:Tryz.pinned.checked.prog.liftsFinal=dflt.lifted:=by kernel_rfl
def j_make:Tryz.pinned.checked.prog.make=some dflt.make:=by kernel_rfl
def j_heard:Tryz.pinned.checked.prog.stopsHeard=true:=by kernel_rfl
def j_rowed:mapsRowed Tryz.pinned.checked.prog=true:=by kernel_rfl
def j_keys:Tryz.pinned.checked.prog.plainKeys=dflt.plainKeys:=by kernel_rfl
def zkL:List (String×DataW Unit):=[("errors.errorType",Rows.laid_errors_errorType)]
def j_t1:prog.worded (varsWordLater true)=true:=by kernel_rfl
def j_t2:prog.worded (varsWordLater !true)=false:=by kernel_rfl
def j_t3:prog.worded rootWordLater=true:=by kernel_rfl
def j_t4:zkL.map (λx=>prog.kindOfLater x.1)=[LaidKind.handle].map some:=by kernel_rfl
def j_t5:(prog.funcNamed "gosem.cut.vars").isSome=true:=by kernel_rfl
def j_t6:varsNamedLaterB prog (varsId prog) zkL=true:=by kernel_rfl
def j_t7:∀os tape,doorLeaves prog 16 8 2 zkL os tape=some (zkL.filter λx=>x.2.handleName?.isNone,(funcsListed zkL).map (·.2.funcsOut)):=λ_ _=>by kernel_rfl
def j_unsafe:Tryz.pinned.checked.prog.headLifts.contains "ownunsafe" =false:=by kernel_rfl
def j_tie:prog.laidByTextLater [("errors.errorType",Rows.laid_errors_errorType)] [.handle] true:=
 Program.laidByTextLater_by_one 16 8 2 j_t1 j_t2 j_t3 j_t4 j_t5 j_t6 j_t7
open Go.Proofs
section
variable{i:Int}
def zAD{s:Sc}{l:LN}(hl:l∈ut s i)(hm:¬(zhc l).mt):holds (zbi s i) (zhc l):=by
 unfold ut at hl;simp only[XD,XR,or_false]at hl
 rcases hl with rfl|rfl|rfl
 ·exact zgt (zgt (zd9 hm))
 ·exact zgt (zd9 hm)
 exact zd9 hm
variable{p:Pt}
def zC3{s:Sc}(h:onS s p i=true)(hk:(zG s i).k=2∨(zG s i).k=3):∃l∈ut s i,∃rule,qQ l rule p:=by
 have hc:jS s i p:=Xc.1 λk=>zd7 k h
 rcases hk with k|k
 ·rcases(zkw (f:=7) hc k).1 h with h|h
  ·exact⟨_,XW ..,_,h⟩
  exact⟨_,XO _ (XW ..),_,h⟩
 exact⟨_,XO _ (XO _ (XW ..)),_,(zud (f:=7) hc oM k).1 h⟩
variable{b:Rc}
def zAE(hb:¬b.mt)(h:b.x0<=p.x/2^8/\p.x/2^8<b.x1/\b.y0<=p.y/2^8/\p.y/2^8<b.y1):¬(b.meet (yZ p)).mt:=by
 have h1:=Rc.notmt hb
 have hp:¬(yZ p).mt:=by
  unfold yZ;unfold Rc.mt Rc.ok v9 at*;dsimp only;omega
 have h2:=Rc.notmt hp;unfold Rc.meet;rw[Xb (λk=>k.elim hb hp)]
 have hm:¬Rc.mt ⟨max b.x0 (yZ p).x0,max b.y0 (yZ p).y0,min b.x1 (yZ p).x1,min b.y1 (yZ p).y1⟩:=by
  unfold yZ at*;unfold Rc.mt Rc.ok v9 at*;dsimp only at*;omega
 rw[Rc.canon_neg hm];exact hm
def zsG{s:Sc}(h:onS s p i=true)(hk:(zG s i).k=2∨(zG s i).k=3):¬zqC p/\¬(zbi s i).mt/\¬((zbi s i).meet (yZ p)).mt:=by
 obtain⟨l,hl,rule,hin⟩:=zC3 h hk;obtain⟨a1,a2⟩:=zCJ hin;obtain⟨b1,b2⟩:=zAD hl a1;obtain⟨c1,c2,c3,c4,c5⟩:=zmz hin;have hh:=zzO c1;have hl:=(zkr c1).1;unfold zm at hl;refine⟨λk=>?_,b1,zAE b1 oM⟩;unfold zqC at k;omega
def zAF{s:Sc}{n:Nat}(hn:n<s.ns.length):(bxA s).getD n k8=bxK s n:=by
 unfold bxA;rw[Xn,zkz hn,Xe hn];rfl
def zuz{s:Sc}{p:Pt}(hv:zV s)(hk:∀m∈s.ns,1<=m.k/\m.k<=3):∀n,n<=s.ns.length->((zaU s (yZ p) (enN (bxA s) n)).reverse).filter (λi=>onS s p i)=atL s p n
 |0,_=>rfl
 |n+1,hn=>by
  have ih:=zuz hv hk (p:=p) n oM;have eb:=zAF (s:=s) (n:=n) oM;have hp:zgm s (yZ p) (n:Int)↔¬((bxK s n).meet (yZ p)).mt:=by unfold zgm;rw[XX,eb]
  by_cases c:ndK s n≠1/\onS s p n=true
  ·obtain⟨_,h1,h2⟩:=zsG c.2 (zd8 hv oM hk c.1);have ek:bxK s n=zbi s n:=Xe c.1;rw[ek]at hp eb;rw[zkA (by rw[eb];exact h1),zaQ c];unfold zaU at ih ⊢;rw[Ke,Ku,Xe (decide_eq_true (hp.2 h2)),Jb,JQ,Jo,Jw,Ku,Xe c.2,ih]
  rw[zeC c]
  by_cases a:(bxK s n).mt
  ·rw[zz1 (by rw[eb];exact a)];exact ih
  have nk:ndK s n≠1:=λe=>a (by unfold bxK;rw[Xb λh=>h e];exact ji)
  have no:¬onS s p n=true:=λh=>c ⟨nk,h⟩
  rw[zkA (by rw[eb];exact a)];unfold zaU at ih ⊢;rw[Ke,Ku]
  split
  ·rw[Jb,JQ,Jo,Jw,Ku,Xb no,ih]
  rw[Jb,XM,ih]
def zqW{s:Sc}{p:Pt}(hv:zV s)(hk:∀m∈s.ns,1<=m.k/\m.k<=3)(hf:zqC p):∀n,n<=s.ns.length->atL s p n=[]
 |0,_=>rfl
 |n+1,hn=>by
  rw[zeC λc=>(zsG c.2 (zd8 hv oM hk c.1)).1 hf];exact zqW hv hk hf n oM
def zC4{s:Sc}(hv:zV s)(hk:∀m∈s.ns,1<=m.k/\m.k<=3):atQ s p=qA s p:=by
 unfold atQ qA atA
 split
 ·rename_i h;rw[zqW hv hk h _ (Xi _)];rfl
 unfold onN cdT zsB enA;rw[zuz hv hk _ (Xi _)]
def inL(s:Sc)(r:Rc):Nat->LU
 |0=>[]
 |n+1=>if ndK s n≠1/\¬((zbi s n).meet r).mt then(n:Int)::inL s r n else inL s r n
def zuA(s:Sc)(r:Rc):∀n,n<=s.ns.length->(zaU s r (enN (bxA s) n)).reverse=inL s r n
 |0,_=>rfl
 |n+1,hn=>by
  have ih:=zuA s r n oM;have eb:=zAF (s:=s) (n:=n) oM;have hp:zgm s r (n:Int)↔¬((bxK s n).meet r).mt:=by unfold zgm;rw[XX,eb]
  unfold inL
  by_cases c:ndK s n≠1/\¬((zbi s n).meet r).mt
  ·have ek:bxK s n=zbi s n:=Xe c.1;rw[ek]at hp eb;have hb:¬(zbi s n).mt:=λk=>c.2 (by unfold Rc.meet;rw[Xe (.inl k)];exact ji)
   rw[zkA (by rw[eb];exact hb),Xe c];unfold zaU at ih ⊢;rw[Ke,Ku,Xe (decide_eq_true (hp.2 c.2)),Jb,JQ,Jo,Jw,ih]
  rw[Xb c]
  by_cases a:(bxK s n).mt
  ·rw[zz1 (by rw[eb];exact a)];exact ih
  have nk:ndK s n≠1:=λe=>a (by unfold bxK;rw[Xb λh=>h e];exact ji)
  have ek:bxK s n=zbi s n:=Xe nk;have no:¬zgm s r (n:Int):=λh=>c ⟨nk,by rw[←ek];exact hp.1 h⟩
  rw[zkA (by rw[eb];exact a)];unfold zaU at ih ⊢;rw[Ke,Ku,Xb (by simpa using no),Jb,XM,ih]
def zkM(s:Sc)(r:Rc):cdT s r=inL s r s.ns.length:=zuA s r _ (Xi _)
def zuB{s:Sc}{r r':Rc}(h:∀b:Rc,¬(b.meet r).mt->¬(b.meet r').mt):∀n,(inL s r n).Sublist (inL s r' n)
 |0=>.slnil
 |n+1=>by
  have ih:=zuB (s:=s) h n;unfold inL
  by_cases c:ndK s n≠1/\¬((zbi s n).meet r).mt
  ·rw[Xe c,Xe ⟨c.1,h _ c.2⟩];exact ih.cons_cons _
  rw[Xb c]
  split
  ·exact ih.cons _
  exact ih
def zuC{s:Sc}{p:Pt}(hv:zV s)(hk:∀m∈s.ns,1<=m.k/\m.k<=3):∀n,n<=s.ns.length->(atL s p n).Sublist (inL s (yZ p) n)
 |0,_=>.slnil
 |n+1,hn=>by
  have ih:=zuC hv hk (p:=p) n oM;unfold inL
  by_cases c:ndK s n≠1/\onS s p n=true
  ·rw[zaQ c,Xe ⟨c.1,(zsG c.2 (zd8 hv oM hk c.1)).2.2⟩];exact ih.cons_cons _
  rw[zeC c]
  split
  ·exact ih.cons _
  exact ih
def zwE{s:Sc}(h:zV s):atQ s p=qA s p:=zC4 h (zdv h)
def zmP(a b:LU)(h:a.Sublist b):CX 29 [.sl zN a,.sl zN b] (bl true):=by
 refine zd func29 λhl0=>?_;refine⟨Nat×Nat,λ⟨i,k⟩=>⟨[(10,i64 i),(9,i64 b.length),(8,.sl zN b),(5,i64 k),(0,.sl zN a)],[],0,33,0⟩,λ⟨i,k⟩=>(i<=b.length/\k<=a.length)/\(a.drop k).Sublist (b.drop i),λ⟨i,_⟩=>b.length-i,(0,0),⟨⟨Xg _,Xg _⟩,h⟩,zA [],?_⟩
 rintro⟨i,k⟩ ⟨⟨hi,hk⟩,hs⟩
 have hi:i<=b.length:=hi;have hk:k<=a.length:=hk;have hs:(a.drop k).Sublist (b.drop i):=hs;refine⟨λg:(i:Int)<b.length=>?_,λg:¬(i:Int)<b.length=>?_⟩
 ·refine wb λn(hn:b[i]?=some n)=>?_;rw[zb4 hn]at hs;intro hl1;refine⟨λc:(k:Int)<a.length=>?_,λc:¬(k:Int)<a.length=>?_⟩
  ·refine wb λm(hm:a[k]?=some m)=>?_;rw[zb4 hm]at hs;refine⟨λe:m=n=>?_,λe=>?_⟩
   ·subst e;(iterate 2 refine wa ?_);exact⟨(i+1,k+1),⟨⟨oM,oM⟩,List.cons_sublist_cons.1 hs⟩,zA [],oN⟩
   refine wa ?_
   have hs:(a.drop k).Sublist (b.drop (i+1)):=by
    rw[zb4 hm]
    cases hs with
    |cons _ h=>exact h
    |cons_cons _ h=>exact absurd rfl e
   exact⟨(i+1,k),⟨⟨oM,hk⟩,hs⟩,zA [],oN⟩
  exact wa<|⟨(i+1,k),⟨⟨oM,hk⟩,by rw[Qf oM];exact List.nil_sublist _⟩,zA [],oN⟩
 rw[Qf (show b.length<=i by omega)]at hs;have:=Xj List.length (List.sublist_nil.1 hs);rw[KJ]at this;intro hl2;exact zrm (show(k:Int)=a.length by simp at this;omega)
def zAG{a c:Rc}(h:¬(c.meet (a.meet b)).mt):¬(c.meet a).mt:=by
 have hc:¬c.mt:=λk=>h (by unfold Rc.meet;rw[Xe (.inl k)];exact ji)
 have hm:¬(a.meet b).mt:=λk=>h (by unfold Rc.meet at k ⊢;rw[Xe (.inr k)];exact ji)
 have ha:¬a.mt:=λk=>hm (by unfold Rc.meet;rw[Xe (.inl k)];exact ji)
 have hb:¬b.mt:=λk=>hm (by unfold Rc.meet;rw[Xe (.inr k)];exact ji)
 have em:a.meet b=⟨max a.x0 b.x0,max a.y0 b.y0,min a.x1 b.x1,min a.y1 b.y1⟩:=by
  have e:a.meet b=Rc.canon ⟨max a.x0 b.x0,max a.y0 b.y0,min a.x1 b.x1,min a.y1 b.y1⟩:=Xb λk=>k.elim ha hb
  rw[e];refine Rc.canon_neg λk=>hm ?_
  rw[e,Rc.canon_pos k];exact ji
 have e1:c.meet (a.meet b)=Rc.canon ⟨max c.x0 (max a.x0 b.x0),max c.y0 (max a.y0 b.y0),min c.x1 (min a.x1 b.x1),min c.y1 (min a.y1 b.y1)⟩:=by
  rw[show c.meet (a.meet b)=_ from Xb λk=>k.elim hc hm,em]
 have h1:¬Rc.mt ⟨max c.x0 (max a.x0 b.x0),max c.y0 (max a.y0 b.y0),min c.x1 (min a.x1 b.x1),min c.y1 (min a.y1 b.y1)⟩:=λk=>h (by rw[e1,Rc.canon_pos k];exact ji)
 rw[show c.meet a=Rc.canon ⟨max c.x0 a.x0,max c.y0 a.y0,min c.x1 a.x1,min c.y1 a.y1⟩ from Xb λk=>k.elim hc ha];have n1:=Rc.notmt h1;have n2:=Rc.notmt hc;have n3:=Rc.notmt ha
 have h2:¬Rc.mt ⟨max c.x0 a.x0,max c.y0 a.y0,min c.x1 a.x1,min c.y1 a.y1⟩:=by
  unfold Rc.mt Rc.ok v9 at*;dsimp only at*;omega
 rw[Rc.canon_neg h2];exact h2
def l_hitNesting(s:Sc)(p:Pt)(a b:Rc):CX 8 [wr s,wk p,.agg (rcE a++rcE b)] (bl true):=by
 refine zd func8<|zmS.data<|wg (zqo s)<|⟨λ_=>zb.to _ qM rfl .refl,λh=>?_⟩;have hl:ltS s:=Xc.1 h;have ht:=zgi hl;refine wg (zkl s ht.tame)<|⟨λ_=>zb.to _ qM rfl .refl,λh=>?_⟩;have hv:zV s:=Xc.1 h;have h8:s.ns.length<=8:=by have:=yY hv;have:=hl.1;omega
 refine wg (zqP s hl hv h8)<|⟨λk=>absurd rfl k,λ_=>?_⟩;refine wc<|wg (zEV a b)<|wg (zbI s (a.meet b) h8)<|wg (zbI s a h8)<|wg (zmP ((cdT s (a.meet b)).map (ndI s)) ((cdT s a).map (ndI s)) (by rw[zkM,zkM];exact(zuB (λ_ k=>zAG k) _).map _))<|⟨λ_=>zb.to _ qM rfl .refl,λh1=>?_⟩;refine⟨λ_=>zb.to _ qM rfl .refl,λh2=>?_⟩;refine⟨λ_=>zb.to _ qM rfl .refl,λh3=>?_⟩;refine⟨λ_=>zb.to _ qM rfl .refl,λh4=>?_⟩
 have e8:(2:Int)^8=256:=dC;have hx: -4096<=p.x/2^8/\p.x/2^8<=4096:=by rw[e8];omega
 have hy: -4096<=p.y/2^8/\p.y/2^8<=4096:=by rw[e8];omega
 refine wc<|wb1<|wb1<|wg (zDI s p ht h8)<|Ar.fit (show-9223372036854775808<=p.x/2^8+1/\p.x/2^8+1<=9223372036854775807 by omega)<|Ar.fit (show-9223372036854775808<=p.y/2^8+1/\p.y/2^8+1<=9223372036854775807 by omega) ?_;exact wg (zbI s (yZ p) h8)<|wg (zmP (atQ s p) ((cdT s (yZ p)).map (ndI s)) (by rw[zkM,zwE hv];exact(zuC hv (zdv hv) _ (Xi _)).map _))<|zb.to _ qM rfl .refl
end
end Go.Gs
namespace Go.Gs
open Go.Proofs Go.RowKit
def shR1:Sh:=.st (.cons shI (.cons shI (.cons shI (.cons shI .nil))))
def toR1(y:shR1.T):Rc:=⟨y.1,y.2.1,y.2.2.1,y.2.2.2.1⟩
def shR2:Sh:=.ar (.cons shR1 (.cons shR1 .nil))
section
variable{H:Type}{enc:TypeId×Value->H}{W:World}{b0:Nat}{held:Bool}
def open_rcH2{v:Value}{d:DataW H}{p:List MemPlace}(hv:Value.okWide Tryz.prog W .any b0 74 v)(h:DataW.Trod enc Tryz.prog W 0 (λ_=>true) held 74 v d p):
  ∃s:Rc×Rc,True/\∀(S Pm:LG) (ρ:ze),(∀b,¬S b)->G S Pm ρ W (.agg (rcE s.1++rcE s.2)) v:=by
 obtain⟨y,_,g⟩:=zg2 shR2 (by kernel_rfl) (by kernel_rfl) hv h;exact⟨(toR1 y.1,toR1 y.2.1),tV,g _ (qm.append qm.refl (qm.append qm.refl .nil))⟩
end
end Go.Gs
