/- The chapter's page; the index of a scene that zc7 one pixel. -/
import Derived.Test.YtakicgnbhdpknaaGreatDoorNBN
import Derived.Test.YtakicgnbhdpknaaGreatDoorChecked
import Derived.LaidLaws
import Derived.LaidHandle
import Derived.Stop.Joined
import Derived.Test.YtakicgnbhdpknaaGreatDoorRows
set_option maxRecDepth 100000
set_option maxHeartbeats 8000000
set_option linter.all false
namespace Go.Gs
open Proofs.Tryz
open Go.Proofs
def cN(id k d op mode:Int)(pa:SV)(rule:Int)(f:SV):LR:=
 i64 id::i64 k::i64 d::(afE idA++([nS,i64 0,u8 op,i64 mode,bl false,bl false,pa,i64 rule,f]++zzP))
def nN(id k d op mode:Int)(p:LX)(rule:Int)(f:LY):Nd:={ zNd with id:=id,k:=k,d:=d,t:=idA,op:=op,mode:=mode,path:=p,rule:=rule,fill:=f }
variable{mode:Int}{rule:Int}{pa:SV}
def zz3{id k d op:Int}{f:SV}{p:LX}{fl:LY}(hp:LE pa (.sl sgE p))(hf:LE f (.sl yD fl)):LEs (cN id k d op mode pa rule f) (ndE (nN id k d op mode p rule fl)):=
 .C (.C (.C (LEs.append .refl (.cons zC (.C (.C (.C (.cons (zd λh=>absurd (show false=true from h) dC) (.cons (zd λh=>absurd (show false=true from h) dC) (.cons hp (.C (.cons hf zBZ))))))))))))
def zCU{id k d op:Int}(f g:SV)(j:Nat)(s':SV)(h:(cN id k d op mode pa rule g)[j]?=some s'):∃s,(cN id k d op mode pa rule f)[j]?=some s/\(s'=s∨(s=f/\s'=g)):=by
 have e:cN id k d op mode pa rule g=(cN id k d op mode pa rule f).set 35 g:=rfl;have hl:(cN id k d op mode pa rule f).length=47:=rfl;rw[e,KA]at h
 by_cases c:35=j
 ·subst c;rw[Xe rfl,Xe (by rw[hl];decide)]at h;exact⟨f,rfl,.inr ⟨rfl,(Xm h).symm⟩⟩
 rw[Xc c]at h;exact⟨s',h,.inl rfl⟩
abbrev box1:LX:=zaE 0 0 1 1
def pgH:Sc:=⟨4,4,⟨0,0,0,0⟩,[nN 7 2 0 0 0 box1 1 [zaH 1],nN 3 1 0 9 1 [] 0 [],nN 5 2 1 0 0 box1 2 [zaH 1]]⟩
def znt(f:SV):LN:=[cN 7 2 0 0 0 (.sl sgE box1) 1 f,cN 3 1 0 9 1 nS 0 nS,cN 5 2 1 0 0 (.sl sgE box1) 2 f]
def znu(f:SV):∀x∈znt f,x.length=47:=λx hx=>by
 simp only[znt,XY,XR,or_false]at hx
 rcases hx with rfl|rfl|rfl <;> rfl
def zCb:CG0 23 [] [] (.agg (scO pgH 0)) [(0,nArr pgH.ns)]:=by
 refine zeZ tok mix func23 rfl rfl rfl<|wg (zin 0 0 1 1)<|⟨Unit,uE,[()],rfl,wb0 ?_⟩;refine wg zaO<|wg zaO<|wg zaO<|⟨znt (.own 1),rfl,Ob.mk ⟨rfl,dC,dC,dC,znu _⟩ ?_⟩;have pf:LE (.sl uE [()]) (.sl yD [zaH 1]):=zyM (e:=uE) (g:=yD) (λ_=>zaH 1) (xs:=[()]) λ_ _=>LEs.d zEw rfl
 refine⟨_,((zcB (sz0:=47) (T0:=66) 1 2 (enc:=uE) (ys:=[()]) (xs:=znt (.own 1)) rfl rfl (xs':=znt (.sl uE [()])) rfl (znu _) (λi j x' s' hx hs=>?_)).trans
  (zeC 2 (xs:=znt (.sl uE [()])) (ys:=pgH.ns.map ndE) rfl (.cons (zz3 .refl pf) (.cons (zz3 zC zC) (.cons (zz3 .refl pf) .nil))))).trans (zgg 2 ndE pgH.ns rfl (λ_ _=>rfl)),some 2,?_,rfl,λ_ _=>rfl⟩
 ·match i,hx with
  |0,hx=>cases hx;obtain⟨s,h1,h2⟩:=zCU (.own 1) _ j s' hs;exact⟨_,s,rfl,h1,h2⟩
  |1,hx=>cases hx;exact⟨_,s',rfl,hs,.inl rfl⟩
  |2,hx=>cases hx;obtain⟨s,h1,h2⟩:=zCU (.own 1) _ j s' hs;exact⟨_,s,rfl,h1,h2⟩
  |i+3,hx=>cases hx
 exact zw6 (.cons (zba rfl) (.cons (zba rfl) (.cons (zba rfl) (.cons (zba rfl) (.cons (zba rfl) (.cons (zba rfl) (.cons (.own 2 rfl) .nil)))))))
def zCc:CX 23 [] (wq pgH):=zCb.plain rfl
def bxK(s:Sc)(k:Nat):Rc:=if ndK s k≠1 then zlT s k else ye
def bxN(s:Sc)(n:Nat):List Rc:=(List.range s.ns.length).map λk=>if k<n then bxK s k else ye
def arN(s:Sc):Nat->Rc
 |0=>ye
 |n+1=>if ndK s n≠1 then zws (arN s n) (zlT s n) else arN s n
def enN(b:List Rc)(n:Nat):LV:=((List.range n).filter λk=>decide (¬(b.getD k ye).mt)).map λk:Nat=>(k:Int)
def zcZ(s:Sc)(n:Nat):(bxN s n).length=s.ns.length:=by unfold bxN;rw[Xx,Ji]
def zs1{s:Sc}{n k:Nat}(h:k<s.ns.length):(bxN s n)[k]?=some (if k<n then bxK s k else ye):=by
 unfold bxN;rw[XD,Ql h];rfl
def zCd{s:Sc}{n:Nat}(h:n<s.ns.length)(hk:ndK s n≠1):(bxN s n).set n (zlT s n)=bxN s (n+1):=by
 refine Kq λj=>?_
 by_cases hj:j<s.ns.length
 ·rw[KA,zs1 hj,zs1 hj,zcZ]
  by_cases c:n=j
  ·subst c;rw[Xe rfl,Xe h,Xe oM];unfold bxK;rw[Xe hk]
  rw[Xc c]
  by_cases q:j<n
  ·rw[Xe q,Xe oM]
  rw[Xc q,Xc oM]
 rw[XF (by rw[XV,zcZ];omega),XF (by rw[zcZ];omega)]
def zz4{s:Sc}{n:Nat}(hk:¬ndK s n≠1):bxN s (n+1)=bxN s n:=by
 unfold bxN;refine Qm λk _=>?_
 by_cases c:k=n
 ·subst c;rw[Xe oM,Xc oM];unfold bxK;rw[Xc hk]
 by_cases q:k<n
 ·rw[Xe oM,Xe q]
 rw[Xc oM,Xc q]
variable{b:List Rc}
def zEH{n:Nat}(h:¬(b.getD n ye).mt):enN b (n+1)=enN b n++[(n:Int)]:=by
 unfold enN;rw[Kw,KN,XA,Qp,Xe (decide_eq_true h)];rfl
def en_no{n:Nat}(h:(b.getD n ye).mt):enN b (n+1)=enN b n:=by
 unfold enN;rw[Kw,KN,XA,Qp,Xc (by simpa using h)];exact XE _
def zs2(b:List Rc)(n:Nat):(enN b n).length<=n:=by
 unfold enN;rw[Xx];have:=KX (λk=>decide (¬(b.getD k ye).mt)) (List.range n)
 rwa [Ji]at this
def quE(a:Rc)(es:SV):LR:=rcE a++[es,nS]
def p_ins(a b:Rc)(es:LV)(i:Int)(ha:a.area<=1)(hl:es.length<=1000):CG0 35 [.loc 0 0,i64 i,wv b,i64 0] [(0,.box 80 (quE a (.own 1))),(1,.arr 3 zN 1 es)] (.tup [])
  [(0,.box 80 (quE a (.own 2))),(2,.arr 3 zN 1 (es++[i]))]:=by
 refine yB tok mix func35 rfl rfl rfl<|we<|wg (zzn a)<|⟨λk=>by have k:1<a.area:=k;omega,λ_=>?_⟩;refine⟨Int,zN,[i],rfl,wb4 ?_⟩;refine⟨[i],rfl,Ob.mk ⟨by show((es.length:Int)+1)*8<=_;omega,by rw[X0];omega,dC,λx hx=>by rw[Xu.1 hx];rfl⟩ ?_⟩;exact⟨⟨[],[(0,.box 80 (quE a (.own 2))),(2,.arr 3 zN 1 (es++[i]))],3,83,2⟩,zf [0,1,4],rfl,.refl⟩
def ixE(s:Sc):LR:=scE s++[.sl rcE (bxN s s.ns.length),.dptr (quE (arN s s.ns.length) (.sl zN (enN (bxN s s.ns.length) s.ns.length)))]
def zz5{s:Sc}:bxN s 0=List.replicate s.ns.length ye:=by
 unfold bxN;rw[List.eq_replicate_iff];refine⟨by rw[Xx,Ji],λb hb=>?_⟩;obtain⟨k,_,rfl⟩:=XO.1 hb;exact Xc (Nat.not_lt_zero _)
def zCe(s:Sc)(hl:ltS s)(hv:jE s)(h1:(arN s s.ns.length).area<=1):CX 17 [wq s] (.tup [.dptr (ixE s),i64 0]):=by
 have ht:=zjg hl;have h64:=ul hv;have hn:∀n∈s.ns,ltN n:=λn hm=>hl.2 n (by rw[Xi oM];exact hm)
 refine uY 2 tok mix func17 rfl rfl rfl<|wg (zje s ht.tame)<|⟨λk=>absurd hv k,λ_=>?_⟩;refine wd<|wg (zz1 s oM hn) λhl0=>?_;refine⟨Rc,rcE,ye,rfl,Ob.mk ⟨dC,oM,Qo _,(by show(s.ns.length:Int)*(32:Int)<=_;omega),oM⟩ ?_⟩;refine wh λhl1=>?_
 refine⟨Nat,λi=>⟨[(28,i64 i),(27,i64 s.ns.length),(26,.sl ndE s.ns),(4,.loc 3 0)],[(3,.box 82 (scE s++([.own 1,.loc 2 0]:LR))),(2,.box 80 (quE (arN s i) nS)),(1,.arr 47 rcE 4 (bxN s i))],4,92,0⟩,
  λi=>i<=s.ns.length,λi=>s.ns.length-i,0,Xh _,zby [(1,some 1),(2,some 2),(3,some 3)] ⟨rfl,rfl,aR zz5.symm,tV⟩,?_⟩
 rintro i hi
 have hi:i<=s.ns.length:=hi;refine⟨λg:(i:Int)<s.ns.length=>?_,λg=>?_⟩
 ·have gi:i<s.ns.length:=oM;refine wb λn hx=>?_;have en:=zsZ (show s.ns[i]?=some n from hx);have r1:0<=(i:Int)/\(i:Int)<(bxN s i).length:=by rw[zcZ];omega
  refine⟨λc=>?_,λc=>?_⟩
  ·have c:ndK s i≠1:=by rw[en];exact c
   have eb:=zCd gi c;have r2:0<=(i:Int)/\(i:Int)<(bxN s (i+1)).length:=by rw[zcZ];omega
   have ebx:(bxN s (i+1))[i]?=some (zlT s i):=by
    rw[zs1 gi,Xe oM];unfold bxK;rw[Xe c]
   refine wd<|wg (zEG s i ht)<|Ob.mk r1<|Ob.mk r1 λz hz=>?_;refine⟨zlT s i,rfl,?_⟩;rw[show(bxN s i).set (i:Int).toNat (zlT s i)=bxN s (i+1) from eb];refine wh<|wd<|Ob.mk r2<|Ob.mk r2 λz hz=>?_;rw[show z=zlT s i from Xm ((show(bxN s (i+1))[i]?=some z from hz).symm.trans ebx)];refine wg (zuM (arN s i) (zlT s i))<|wh<|wa ?_;have ea:arN s (i+1)=zws (arN s i) (zlT s i):=Xe c
   exact⟨i+1,by show i+1<=_;omega,zby [(1,some 1),(2,some 2),(3,some 3)] ⟨rfl,Xg (λq=>some (Mem.box 80 (quE q nS))) ea.symm,rfl,tV⟩,oN⟩
  have c:¬ndK s i≠1:=λk=>c (by rw[←en];exact k)
  refine wa ?_;have ea:arN s (i+1)=arN s i:=Xc c;exact⟨i+1,by show i+1<=_;omega,zby [(1,some 1),(2,some 2),(3,some 3)] ⟨rfl,Xg (λq=>some (Mem.box 80 (quE q nS))) ea.symm,aR (zz4 c).symm,tV⟩,oN⟩
 obtain rfl:i=s.ns.length:=by have g:¬(i:Int)<s.ns.length:=g;omega
 have hbl:=zcZ s s.ns.length;intro hl2
 refine⟨Nat,λi=>⟨[(75,i64 i),(74,i64 ((bxN s s.ns.length).length:Int)),(73,.own 1),(4,.loc 3 0)],[(3,.box 82 (scE s++[.own 1,.loc 2 0])),(2,.box 80 (quE (arN s s.ns.length) (.own 4))),(1,.arr 47 rcE 4 (bxN s s.ns.length)),(4,.arr 3 zN 1 (enN (bxN s s.ns.length) i))],5,92,0⟩,
  λi=>i<=(bxN s s.ns.length).length,λi=>(bxN s s.ns.length).length-i,0,Xh _,zB [(1,some 1),(2,some 2),(3,some 3),(4,none)],?_⟩
 rintro i hi
 have hi:i<=(bxN s s.ns.length).length:=hi;have hel:=zs2 (bxN s s.ns.length) i;refine⟨λg:(i:Int)<(bxN s s.ns.length).length=>?_,λg=>?_⟩
 ·obtain⟨b,hb⟩:∃b,(bxN s s.ns.length)[i]?=some b:=⟨_,Xb oM⟩;have eg:(bxN s s.ns.length).getD i ye=b:=by rw[Xt,hb];rfl
  refine wb<|wb λz hz=>?_;rw[show z=b from Xm ((show(bxN s s.ns.length)[i]?=some z from hz).symm.trans hb)];refine wg (zeM b)<|⟨λc=>?_,λc=>?_⟩
  ·refine wd<|zb.give [2,4] 1 [.loc 0 0,i64 i,wv b,i64 0] [(0,.box 80 (quE (arN s s.ns.length) (.own 1))),(1,.arr 3 zN 1 (enN (bxN s s.ns.length) i))] _ _ (p_ins (arN s s.ns.length) b (enN (bxN s s.ns.length) i) i h1 oM) LEs.refl rfl rfl rfl ⟨⟨_,rfl,rfl,rfl⟩,⟨_,rfl,rfl,tV⟩,tV⟩ rfl ⟨⟨rfl,rfl⟩,⟨rfl,tV⟩,tV⟩<|wh<|wa ?_
   exact⟨i+1,by show i+1<=_;omega,zby [(1,some 1),(2,some 2),(3,some 3),(4,some 6)] ⟨rfl,rfl,rfl,aR (zEH (by rw[eg];exact c)).symm,tV⟩,oN⟩
  exact wa<|⟨i+1,by show i+1<=_;omega,zby [(1,some 1),(2,some 2),(3,some 3),(4,some 4)] ⟨rfl,rfl,rfl,aR (en_no (by rw[eg];exact Xa.1 c)).symm,tV⟩,oN⟩
 have e:i=s.ns.length:=by have g:¬(i:Int)<(bxN s s.ns.length).length:=g;omega
 rw[e];exact .refl
def zCf(x y:Int):CX 146 [i64 x,i64 y] (pr (x<y)):=by
 have nan:∀z:Int,CX 217 [i64 z] (pr (¬z=z)):=λz=>by
  exact zc func217<|.refl
 exact zc func146<|wg (nan x)<|⟨λk=>absurd rfl k,λ_=>.refl⟩
def zEI(n:Nat)(h:n<=12):CX 102 [u64 n] (i64 (kA n)):=by
 have l64:CX 150 [u64 n] (i64 (kA n)):=by
  refine zc func150<|Br.mk (λk=>by have k:(4294967296:Int)<=n:=k;omega) (λ_=>?_);refine⟨λk=>by have k:(65536:Int)<=n:=k;omega,λ_=>?_⟩;refine⟨λk=>by have k:(256:Int)<=n:=k;omega,λ_=>?_⟩;refine wa<|wb10 λb hb=>?_;have hb':b.toNat=kA n:=zkl hb (by show n<256;omega) (λh=>len8tab_get n h);have:=bitLen_le8 n oM;have:kA n<=8:=this;(iterate 2 refine wa ?_);exact ze oM
 exact zc func102<|zb.to _ l64 rfl .refl
def upS(l:LV):Prop:=∀(i:Nat) x y,l[i]?=some x->l[i+1]?=some y->x<=y
def j8(l:LV):zfY (.arr 3 zN 1 l):=λ_ _=>rfl
def zEJ(l:LV)(h:upS l)(hl:l.length<=12):CG0 140 [.own 0,i64 0,i64 l.length] [(0,.arr 3 zN 1 l)] (.tup []) [(0,.arr 3 zN 1 l)]:=by
 refine un tok mix func140 rfl rfl rfl (j8 _) rfl<|wa<|⟨Nat,λi=>⟨[(6,i64 i),(2,i64 l.length),(1,i64 0),(0,.own 0)],[(0,.arr 3 zN 1 l)],1,49,1⟩,λi=>1<=i/\i<=l.length+1,λi=>l.length+1-i,1,⟨Xk _,oM⟩,?_,?_⟩
 ·exact zf [0]
 rintro i ⟨i1,i2⟩
 refine⟨λg=>?_,λg=>⟨rfl,.refl⟩⟩;have g:(i:Int)<l.length:=g;refine⟨Unit,λ_=>⟨[(7,i64 i),(6,i64 i),(2,i64 l.length),(1,i64 0),(0,.own 0)],[(0,.arr 3 zN 1 l)],1,49,1⟩,λ_=>True,λ_=>0,(),tV,zf [0],?_⟩
 rintro _ _
 refine wc<|Br.mk (λ_=>?_) (λk=>by have k:¬(0:Int)<i:=k;omega);refine wb<|wb λy(hy:l[i]?=some y)=>?_;refine wa<|wb<|wb λx hx=>?_;have hx:l[i-1]?=some x:=by rw[←hx];congr 1;omega
 have hle:=h (i-1) x y hx (by rw[Nat.sub_add_cancel i1];exact hy);refine wg (zCf y x)<|⟨λk=>by have k:y<x:=k;omega,λ_=>?_⟩;exact wa<|⟨i+1,⟨oM,oM⟩,zf [0],oN⟩
def zEK(l:LV)(h:upS l)(hl:l.length<=12):CG0 66 [.own 0] [(0,.arr 3 zN 1 l)] (.tup []) [(0,.arr 3 zN 1 l)]:=by
 have pdq:∀m:Int,CG0 101 [.own 0,i64 0,i64 l.length,i64 m] [(0,.arr 3 zN 1 l)] (.tup []) [(0,.arr 3 zN 1 l)]:=λm=>by
  refine un tok mix func101 rfl rfl rfl (j8 _) rfl<|⟨Unit,λ_=>⟨[(2,i64 l.length),(1,i64 0),(0,.own 0)],[(0,.arr 3 zN 1 l)],1,134,1⟩,λ_=>True,λ_=>0,(),tV,?_,?_⟩
  ·exact zf [0]
  rintro _ _
  refine wa<|Br.mk (λ_=>?_) (λk=>by have k:¬(l.length:Int)-0<=12:=k;omega);exact zb.hand 0 _ _ _ rfl (zEJ l h hl) (j8 _) (j8 _) rfl rfl<|⟨rfl,.refl⟩
 exact un tok mix func66 rfl rfl rfl (j8 _) rfl λhl0=>wa<|wg (zEI l.length hl)<|zb.hand 0 _ _ _ rfl (pdq _) (j8 _) (j8 _) rfl rfl<|⟨rfl,.refl⟩
def revT(q l:LV)(i:Nat):Prop:=l.length=q.length/\∀k,k<q.length->l[k]?=if k<i∨q.length<=k+i then q[q.length-1-k]? else q[k]?
def zEL(q:LV)(hq:q.length<=1000):CG0 67 [.own 0] [(0,.arr 3 zN 1 q)] (.tup []) [(0,.arr 3 zN 1 q.reverse)]:=by
 refine un tok mix func67 rfl rfl rfl (j8 _) rfl λhl0=>wa<|⟨Nat×LV,λ⟨i,l⟩=>⟨[(3,i64 ((q.length:Int)-1-i)),(2,i64 i),(0,.own 0)],[(0,.arr 3 zN 1 l)],1,28,1⟩,λz=>2*z.1<=q.length/\revT q z.2 z.1,λz=>q.length-z.1,(0,q),⟨Xh _,rfl,λk hk=>?_⟩,?_,?_⟩
 ·dsimp only at hk ⊢;rw[Xc oM]
 ·exact zS [0] ⟨iR oM,rfl,rfl,tV⟩ ⟨rfl,tV⟩
 rintro⟨i,l⟩ ⟨h1,h2,h3⟩
 have h1:2*i<=q.length:=h1;have h2:l.length=q.length:=h2;refine⟨λg:(i:Int)<(q.length:Int)-1-i=>?_,λg:¬(i:Int)<(q.length:Int)-1-i=>?_⟩
 ·have ej:((q.length:Int)-1-i).toNat=q.length-1-i:=oM;refine wc<|wb<|wb λx hx=>?_;have hx:l[q.length-1-i]?=some x:=by rw[←hx,ej]
  refine wb<|wb λy(hy:l[i]?=some y)=>?_;refine wb<|wb λx' _=>?_;refine⟨x,rfl,?_⟩;refine Ob.mk (by rw[XV];omega)<|Ob.mk (by rw[XV];omega) λy' _=>?_;refine⟨y,rfl,?_⟩;(iterate 2 refine wa ?_)
  refine⟨(i+1,(l.set i x).set (q.length-1-i) y),⟨oN,by dsimp only;rw[XV,XV];exact h2,λk hk=>?_⟩,
   zS [0] ⟨iR oM,rfl,rfl,tV⟩ ⟨aR (by rw[ej];rfl),tV⟩,oN⟩
  dsimp only;rw[h3 _ oM,Xc oM]at hx hy;rw[KA,KA,XV]
  by_cases c1:q.length-1-i=k
  ·rw[Xe c1,Xe oM,Xe oM,←hy];congr 1;omega
  rw[Xc c1]
  by_cases c2:i=k
  ·rw[Xe c2,Xe oM,Xe oM,←hx];congr 1;omega
  rw[Xc c2,h3 k hk]
  by_cases c3:k<i∨q.length<=k+i
  ·rw[Xe c3,Xe oM]
  rw[Xc c3,Xc oM]
 refine⟨aR (Kq λk=>?_),.refl⟩
 by_cases hk:k<q.length
 ·rw[h3 k hk,QP hk]
  split
  ·rfl
  congr 1;omega
 rw[XF oM,XF (by rw[KU];omega)]
def fdL(a r:Rc)(es:LV):LV:=if (a.meet r).mt then[] else es
def zEM(a r:Rc)(es:LV)(hl:es.length<=1000):CX 64 [.dptr (quE a (.sl zN es)),wv r] (.sl zN (fdL a r es)):=by
 refine zc func64<|wc<|wg (zzo a r)<|wg (zeM (a.meet r))<|⟨λh=>by rw[show fdL a r es=[] from Xe h];exact zC,λh=>?_⟩;refine wg (cl_I es hl)<|⟨Unit,λ_=>⟨[(25,i64 0),(24,i64 0),(5,.sl zN es)],[],1,36,0⟩,λ_=>True,λ_=>0,(),tV,?_,?_⟩
 ·exact zB []
 rintro _ _
 refine⟨λk=>absurd k dC,λ_=>?_⟩;exact zZ (Xc h).symm
def bxA(s:Sc):List Rc:=bxN s s.ns.length
def enA(s:Sc):LV:=enN (bxA s) s.ns.length
def zrx(s:Sc)(r:Rc)(i:Int):Prop:=¬(((bxA s).getD i.toNat ye).meet r).mt
instance (s:Sc) (r:Rc) (i:Int):Decidable (zrx s r i):=inferInstanceAs (Decidable (¬_))
def zfV(s:Sc)(r:Rc)(l:LV):LV:=l.filter λi=>decide (zrx s r i)
def cdL(s:Sc)(r:Rc):LV:=(zfV s r (fdL (arN s s.ns.length) r (enA s))).reverse
variable{i:Int}
def zCV{n:Nat}(h:i∈enN b n):0<=i/\i<n:=by
 unfold enN at h;obtain⟨k,hk,rfl⟩:=XO.1 h;have:=Kd.1 (QL.1 hk).1;omega
def en_up(b:List Rc)(n:Nat):(enN b n).Pairwise (·<=·):=by
 unfold enN;rw[JS];exact((List.pairwise_lt_range).sublist List.filter_sublist).imp λh=>oM
def zs3(a r:Rc)(es:LV):(fdL a r es).Sublist es:=by
 unfold fdL;split
 ·exact List.nil_sublist _
 exact List.Sublist.refl _
variable{l:LV}
def up_of(h:l.Pairwise (·<=·)):upS l:=λi x y hx hy=>by
 obtain⟨h1,rfl⟩:=Xd.1 hx;obtain⟨h2,rfl⟩:=Xd.1 hy;exact JN.1 h i (i+1) h1 h2 (XW _)
variable{r:Rc}{j:Nat}
def zCg{s:Sc}(hi:l[j]?=some i)(h:zrx s r i):zfV s r (l.take (j+1))=zfV s r (l.take j)++[i]:=by
 unfold zfV;rw[Xl,hi,KN,Qt,Qp,Xe (decide_eq_true h)];rfl
def zEN{s:Sc}(hi:l[j]?=some i)(h:¬zrx s r i):zfV s r (l.take (j+1))=zfV s r (l.take j):=by
 unfold zfV;rw[Xl,hi,KN,Qt,Qp,Xc (by simpa using h)];exact XE _
def zCW{s:Sc}(h:i∈cdL s r):0<=i/\i<s.ns.length:=by
 unfold cdL zfV at h;exact zCV ((zs3 _ _ _).subset (QL.1 (List.mem_reverse.1 h)).1)
def zz6(s:Sc)(r:Rc):(cdL s r).length<=s.ns.length:=by
 unfold cdL zfV;rw[KU];exact XB (KX _ _) (XB (zs3 _ _ _).length_le (zs2 _ _))
def zz7(s:Sc)(r:Rc)(h8:s.ns.length<=8):CX 37 [.dptr (ixE s),wv r] (.sl zN (cdL s r)):=by
 refine zc func37 ?_;have hbl:(bxN s s.ns.length).length=s.ns.length:=zcZ _ _;have hel:=zs2 (bxA s) s.ns.length;refine wc<|wg (zEM (arN s s.ns.length) r (enA s) (by unfold enA;omega)) ?_;obtain⟨fs,hfs⟩:∃fs,fs=fdL (arN s s.ns.length) r (enA s):=⟨_,rfl⟩;have hsub:fs.Sublist (enA s):=hfs ▸ zs3 _ _ _;have hfl:fs.length<=8:=XB hsub.length_le (by unfold enA;omega);have hin:∀i∈fs,0<=i/\i<s.ns.length:=λi hi=>zCV (hsub.subset hi)
 have hup:∀l:LV,l.Sublist fs->upS l:=λl hl=>up_of ((en_up _ _).sublist (hl.trans hsub))
 have ecd:cdL s r=(zfV s r fs).reverse:=by rw[hfs];rfl
 rw[←hfs,ecd];clear hsub hfs ecd;intro hl0;refine⟨Nat,λj=>⟨[(24,i64 j),(23,i64 fs.length),(22,.sl zN fs),(5,.own 1),(3,.loc 0 0),(0,.dptr (ixE s))],[(0,.box 47 (rcE r)),(1,.arr 3 zN 1 (zfV s r (fs.take j)))],2,49,0⟩,λj=>j<=fs.length,λj=>fs.length-j,0,Xh _,zB [(0,some 0),(1,none)],?_⟩
 rintro j hj
 have hj:j<=fs.length:=hj;have hsl:(zfV s r (fs.take j)).Sublist fs:=List.filter_sublist.trans (List.take_sublist _ _);have hll:=hsl.length_le;refine⟨λg:(j:Int)<fs.length=>?_,λg:¬(j:Int)<fs.length=>?_⟩
 ·refine wb λi(hi:fs[j]?=some i)=>?_;have hir:=hin i (Xf hi);refine wc<|Ob.mk (by rw[hbl];exact hir) λb hb=>?_;have eb:(bxA s).getD i.toNat ye=b:=by rw[Xt];unfold bxA;rw[show(bxN s s.ns.length)[i.toNat]?=some b from hb];rfl
  refine wg (zzo b r)<|wg (zeM (b.meet r))<|⟨λc=>?_,λc=>?_⟩
  ·have c:zrx s r i:=by unfold zrx;rw[eb];exact c
   refine⟨Int,zN,[i],rfl,wb4 ?_⟩;refine⟨[i],rfl,Ob.mk ⟨by show(((zfV s r (fs.take j)).length:Int)+1)*8<=_;omega,by rw[X0];omega,dC,λx hx=>by rw[Xu.1 hx];rfl⟩ ?_⟩;exact wa<|⟨j+1,by show j+1<=fs.length;omega,zu [0,3] ⟨rfl,aR (zCg hi c).symm,tV⟩,oN⟩
  have c:¬zrx s r i:=by unfold zrx;rw[eb];exact c
  exact wa<|⟨j+1,by show j+1<=fs.length;omega,zu [0,1] ⟨rfl,aR (zEN hi c).symm,tV⟩,oN⟩
 exact zb.hand 1 _ _ _ rfl (zEK (zfV s r (fs.take j)) (hup _ hsl) oM) (j8 _) (j8 _) rfl rfl<|zb.hand 1 _ _ _ rfl (zEL (zfV s r (fs.take j)) oM) (j8 _) (j8 _) rfl rfl<|zZ (by rw[Xi oM])
def zry(s:Sc)(r:Rc)(h8:s.ns.length<=8):CX 20 [.dptr (ixE s),wv r] (.sl zN ((cdL s r).map (ndI s))):=by
 refine zc func20<|wg (zz7 s r h8) ?_;have hc:=zz6 s r;intro hl0;refine⟨Nat,λj=>⟨[(12,i64 j),(11,i64 ((cdL s r).length:Int)),(10,.sl zN (cdL s r)),(5,.own 1),(0,.dptr (ixE s))],[(1,.arr 3 zN 1 (((cdL s r).take j).map (ndI s)))],2,30,0⟩,λj=>j<=(cdL s r).length,λj=>(cdL s r).length-j,0,Xh _,zB [(1,none)],?_⟩
 rintro j hj
 have hj:j<=(cdL s r).length:=hj;have hll:(((cdL s r).take j).map (ndI s)).length<=8:=by rw[Xx,Xo];omega
 refine⟨λg:(j:Int)<(cdL s r).length=>?_,λg:¬(j:Int)<(cdL s r).length=>?_⟩
 ·refine wb λi(hi:(cdL s r)[j]?=some i)=>?_;refine Ob.mk (zCW (Xf hi)) λn hn=>?_;refine⟨Int,zN,[n.id],rfl,wb4 ?_⟩;refine⟨[n.id],rfl,Ob.mk ⟨by show(((((cdL s r).take j).map (ndI s)).length:Int)+1)*8<=_;omega,by rw[X0];omega,dC,λx hx=>by rw[Xu.1 hx];rfl⟩ ?_⟩;refine wa ?_
  exact⟨j+1,by show j+1<=(cdL s r).length;omega,zby [(1,some 3)] ⟨aR (by rw[Xl,hi,XA,←zlw hn];rfl),tV⟩,oN⟩
 exact zZ (by rw[Xi oM])
def zz8(p:Pt):Prop:=p.x < -1048576∨1048576<=p.x∨p.y < -1048576∨1048576<=p.y
instance (p:Pt):Decidable (zz8 p):=wj
def zec(p:Pt):Rc:=⟨p.x/2^8,p.y/2^8,p.x/2^8+1,p.y/2^8+1⟩
def onN(s:Sc)(p:Pt)(l:LV):LV:=(l.filter λi=>onS s p i).map (ndI s)
def atI(s:Sc)(p:Pt):LV:=if zz8 p then[] else onN s p (cdL s (zec p))
variable{p:Pt}
def zEO{s:Sc}(hi:l[j]?=some i)(h:onS s p i=true):onN s p (l.take (j+1))=onN s p (l.take j)++[ndI s i]:=by
 unfold onN;rw[Xl,hi,KN,Qt,Qp,Xe h,XA];rfl
def on_no{s:Sc}(hi:l[j]?=some i)(h:¬onS s p i=true):onN s p (l.take (j+1))=onN s p (l.take j):=by
 unfold onN;rw[Xl,hi,KN,Qt,Qp,Xc h];exact Xg _ (XE _)
def p_at(s:Sc)(p:Pt)(ht:jf s)(h8:s.ns.length<=8):CX 19 [.dptr (ixE s),wk p] (.sl zN (atI s p)):=by
 refine zc func19 ?_;have far:zz8 p->LE nS (.sl zN (atI s p)):=λh=>by rw[show atI s p=[] from Xe h];exact zC
 refine⟨λh=>far (.inl h),λh1=>?_⟩;refine⟨λh=>far (.inr (.inl h)),λh2=>?_⟩;refine⟨λh=>far (.inr (.inr (.inl h))),λh3=>?_⟩;refine⟨λh=>far (.inr (.inr (.inr h))),λh4=>?_⟩;have hf:¬zz8 p:=λk=>k.elim h1 λk=>k.elim h2 λk=>k.elim h3 h4
 have ea:atI s p=onN s p (cdL s (zec p)):=Xc hf;unfold zz8 at hf;have e8:(2:Int)^8=256:=dC;have hx: -4096<=p.x/2^8/\p.x/2^8<=4096:=by rw[e8];omega
 have hy: -4096<=p.y/2^8/\p.y/2^8<=4096:=by rw[e8];omega
 refine wb1<|wb1<|wb1<|Ar.fit (show-9223372036854775808<=p.x/2^8+1/\p.x/2^8+1<=9223372036854775807 by omega)<|wb1<|Ar.fit (show-9223372036854775808<=p.y/2^8+1/\p.y/2^8+1<=9223372036854775807 by omega) ?_;refine wg (zz7 s (zec p) h8) ?_;have hc:=zz6 s (zec p);intro hl0
 refine⟨Nat,λj=>⟨[(46,i64 j),(45,i64 ((cdL s (zec p)).length:Int)),(44,.sl zN (cdL s (zec p))),(6,.own 1),(3,.loc 0 0),(0,.dptr (ixE s))],[(0,.box 28 (ptE p)),(1,.arr 3 zN 1 (onN s p ((cdL s (zec p)).take j)))],2,71,0⟩,λj=>j<=(cdL s (zec p)).length,λj=>(cdL s (zec p)).length-j,0,Xh _,zB [(0,some 0),(1,none)],?_⟩
 rintro j hj
 have hj:j<=(cdL s (zec p)).length:=hj
 have hll:(onN s p ((cdL s (zec p)).take j)).length<=8:=by
  unfold onN;rw[Xx];refine XB (KX _ _) ?_;rw[Xo];omega
 refine⟨λg:(j:Int)<(cdL s (zec p)).length=>?_,λg:¬(j:Int)<(cdL s (zec p)).length=>?_⟩
 ·refine wb λi(hi:(cdL s (zec p))[j]?=some i)=>?_;refine wc<|wg (g_on s p i ht)<|⟨λc=>?_,λc=>?_⟩
  ·refine Ob.mk (zCW (Xf hi)) λn hn=>?_;refine⟨Int,zN,[n.id],rfl,wb4 ?_⟩;refine⟨[n.id],rfl,Ob.mk ⟨by show(((onN s p ((cdL s (zec p)).take j)).length:Int)+1)*8<=_;omega,by rw[X0];omega,dC,λx hx=>by rw[Xu.1 hx];rfl⟩ ?_⟩;exact wa<|⟨j+1,by show j+1<=(cdL s (zec p)).length;omega,zu [0,3] ⟨rfl,aR (by rw[zEO hi c,zlw hn]),tV⟩,oN⟩
  exact wa<|⟨j+1,by show j+1<=(cdL s (zec p)).length;omega,zu [0,1] ⟨rfl,aR (on_no hi c).symm,tV⟩,oN⟩
 exact zZ (by rw[ea,Xi oM])
def zz9:ltS pgH:=by decide +kernel
def zwt:jE pgH:=by decide +kernel
def zAa:(arN pgH pgH.ns.length).area<=1:=by decide +kernel
def zEP:atI pgH ⟨9,0⟩=[5,7]/\(cdL pgH ⟨0,0,4,4⟩).map (ndI pgH)=[5,7]/\(cdL pgH ⟨1,0,4,4⟩).map (ndI pgH)=[]:=by decide +kernel
def zEQ:yf pgH ⟨5,5⟩=[5,7]/\yf pgH ⟨256,5⟩=[]/\yf pgH ⟨9,0⟩=[5,7]/\zeV pgH zp=[3,5]/\zeV pgH ⟨999,0⟩=[]/\onS pgH zp 1=true/\¬onS pgH zp 3=true:=by decide +kernel
def vX:CX 8 [] (bl true):=by
 refine zc func8 ?_;have ht:=zjg zz9;obtain⟨i1,i2,i3⟩:=zEP;obtain⟨a1,a2,a3,a4,a5,a6,a7⟩:=zEQ;refine wg zCc<|wg (zCe pgH zz9 zwt zAa)<|⟨λk=>absurd rfl k,λ_=>?_⟩;refine wg (p_at pgH ⟨9,0⟩ ht dC)<|⟨Int,zN,[5,7],rfl,wb0 ?_⟩;refine wg (zh9 (atI pgH ⟨9,0⟩) [5,7])<|⟨λk=>absurd i1 k,λ_=>?_⟩;refine wg (zry pgH ⟨0,0,4,4⟩ dC)<|⟨Int,zN,[5,7],rfl,wb0 ?_⟩;refine wg (zh9 ((cdL pgH ⟨0,0,4,4⟩).map (ndI pgH)) [5,7]) ?_
 refine⟨λk=>absurd i2 k,λ_=>?_⟩;refine wg (zry pgH ⟨1,0,4,4⟩ dC) λhl0=>?_;refine⟨λk=>absurd (show(((cdL pgH ⟨1,0,4,4⟩).map (ndI pgH)).length:Int)=0 by rw[i3];rfl) k,λ_=>?_⟩;refine wg (zzX pgH ⟨5,5⟩ ht)<|wg (zzX pgH ⟨256,5⟩ ht)<|⟨λ_=>?_,λk=>absurd (show(yf pgH ⟨5,5⟩).headD 0=5 by rw[a1];rfl) k⟩;refine⟨λ_=>?_,λk=>absurd (show 0<(yf pgH ⟨5,5⟩).length by rw[a1];decide) k⟩
 refine⟨λ_=>?_,λk=>absurd (show¬0<(yf pgH ⟨256,5⟩).length by rw[a2];decide) k⟩;refine wg (g_on pgH zp 1 ht)<|⟨λ_=>?_,λk=>absurd a6 k⟩;refine wg (g_on pgH zp 3 ht)<|⟨λ_=>?_,λk=>absurd a7 k⟩;refine wg (zCS pgH ⟨9,0⟩ ht)<|⟨Int,zN,[5,7],rfl,wb0 ?_⟩;refine wg (zh9 (yf pgH ⟨9,0⟩) [5,7])<|⟨λ_=>?_,λk=>absurd a3 k⟩;refine wg (zzY pgH zp ht)<|⟨Int,zN,[3,5],rfl,wb0 ?_⟩;refine wg (zh9 (zeV pgH zp) [3,5]) ?_
 refine⟨λ_=>?_,λk=>absurd a4 k⟩;exact wg (zzY pgH ⟨999,0⟩ ht) λhl1=>zw5 (show((zeV pgH ⟨999,0⟩).length:Int)=0 by rw[a5];rfl)
def l_hitTop(s:Sc)(p:Pt):CX 4 [wq s,wk p] (bl true):=by
 refine zc func4<|wg (zrn s)<|⟨λ_=>zb.to _ vX rfl .refl,λh=>?_⟩;have ht:=zjg (Xa.1 h);refine wg (zzX s p ht)<|wg (k_top s p ht)<|wc<|Br.mk (λ_=>?_) (λk=>absurd rfl k);refine⟨λ_=>?_,λk=>absurd K5 k⟩;refine wg (zzY s p ht)<|wg (k_way s p ht)<|wg (zh9 (zeV s p) (zeV s p))<|⟨λ_=>?_,λk=>absurd rfl k⟩;exact zb.to _ vX rfl .refl
def stS(stop:Int)(l:LV)(j:Nat):LT:=match decide (j=0∨(j:Int)<=stop) with
 |true=>[(0,.box 3 [i64 stop]),(1,.box 4 [bl false]),(2,.box 31 [.sl zN l]),(3,.box 3 [i64 j])]
 |false=>[(0,.box 3 [i64 stop]),(1,.box 4 [bl false]),(2,.box 31 [.sl zN l]),(3,.box 3 [i64 j]),(4,zrs 3)]
def zjh{stop:Int}{l:LV}{j:Nat}(h:j=0∨(j:Int)<=stop):stS stop l j=[(0,.box 3 [i64 stop]),(1,.box 4 [bl false]),(2,.box 31 [.sl zN l]),(3,.box 3 [i64 j])]:=by
 unfold stS;rw[decide_eq_true h]
def zAb{stop:Int}(h:¬(j=0∨(j:Int)<=stop)):(4,zrs 3)∈stS stop l j:=by
 unfold stS;rw[decide_eq_false h];exact .tail _ (.tail _ (.tail _ (.tail _ (.head _))))
def zER(stop:Int)(l:LV)(j:Nat):ziL (stS stop l j):=by
 intro k m hm;unfold stS at hm
 split at hm <;> simp only[XY,XR,or_false,Kt]at hm
 ·obtain⟨_,rfl⟩|⟨_,rfl⟩|⟨_,rfl⟩|⟨_,rfl⟩:=hm <;> first|rfl|trivial
 obtain⟨_,rfl⟩|⟨_,rfl⟩|⟨_,rfl⟩|⟨_,rfl⟩|⟨_,rfl⟩:=hm <;> first|rfl|trivial
def l_hitNodesAt(s:Sc)(p:Pt)(stop:Int):CX 3 [wq s,wk p,i64 stop] (bl true):=by
 refine ug 1 tok mix func3 rfl rfl rfl<|wg (zrn s)<|⟨λ_=>zb.to _ vX rfl .refl,λh=>?_⟩;have ht:=zjg (Xa.1 h);have hs:=znq s p;have em:zcr stop [0]=max stop 0:=rfl;refine wg (znr s p ht)<|wc<|wg (zCS s p ht)<|wg (zh9 (yf s p) (yf s p))<|⟨λk=>absurd rfl k,λ_=>?_⟩;refine wg (zh8 s p) ?_
 refine⟨Int,zN,yf s p,4,[(8,.loc 3 0),(7,.loc 2 0),(6,.loc 1 0),(5,.loc 0 0)],stS stop (yf s p),λ_=>5,zs0 s p ht,λ_=>rfl,⟨rfl,rfl,rfl,rfl⟩,
  ?_,⟨Xh _,rfl⟩,zER stop (yf s p),?_,?_⟩
 ·rw[zjh (.inl rfl)];exact zf [2,3,4,5]
 ·intro j y hy hL
  by_cases c:j=0∨(j:Int)<=stop
  ·have hj:j<(yf s p).length:=(Xd.1 hy).1;rw[zjh c];intro hl1;refine⟨λg=>by have g:((yf s p).length:Int)<=j:=g;omega,λ_=>?_⟩;refine wb λx hx=>?_;rw[show x=y from Xm ((show(yf s p)[j]?=some x from hx).symm.trans hy)];refine⟨λk=>absurd rfl k,λ_=>?_⟩;refine wa<|Br.mk (λg=>?_) (λg=>?_)
   ·have g:stop<(j:Int)+1:=g;refine⟨[(0,.box 3 [i64 stop]),(1,.box 4 [bl false]),(2,.box 31 [.sl zN (yf s p)]),(3,.box 3 [i64 ((j:Int)+1)])],4,zf [0,1,2,3],λk m hm=>?_,?_⟩
    ·simp only[XY,XR,or_false,Kt]at hm
     obtain⟨_,rfl⟩|⟨_,rfl⟩|⟨_,rfl⟩|⟨_,rfl⟩:=hm <;> first|rfl|trivial
    intro hl2;refine⟨λk=>?_,λk=>absurd (show stop<((yf s p).length:Int) by omega) k⟩;refine wa<|Br.mk (λ_=>?_) (λk=>absurd (show(j:Int)+1=min ((yf s p).length:Int) (max stop 0+1) by omega) k);exact zb.to _ vX rfl .refl
   have g:¬stop<(j:Int)+1:=g;rw[zjh (j:=j+1) (.inr oM)];exact zf [0,1,2,3]
  exact absurd hL (zeP (k:=4) (T:=3) (zAb c))
 intro hL
 by_cases c:(yf s p).length=0∨((yf s p).length:Int)<=stop
 ·rw[zjh c];intro hl2;refine⟨λk:stop<((yf s p).length:Int)=>?_,λk=>?_⟩
  ·refine wa<|Br.mk (λ_=>?_) (λk=>absurd (show((yf s p).length:Int)=min ((yf s p).length:Int) (max stop 0+1) by omega) k);exact zb.to _ vX rfl .refl
  refine⟨λ_=>?_,λk=>absurd rfl k⟩;exact zb.to _ vX rfl .refl
 exact absurd hL (zeP (k:=4) (T:=3) (zAb c))
end Go.Gs
namespace Go.Gs
open Go.Proofs Go.RowKit
def laidOut:laidOutB Tryz.prog=true:=by kernel_rfl
def wfi{n:Int}(h:(Lit.int .i64 n).wf=true):R64 n:=r64 h
def wf32{n:Int}(h:(Lit.int .u32 n).wf=true):0<=n/\n<=4294967295:=by
 simp only[Lit.wf,XC,decide_eq_true_eq]at h;exact h
def shI:Sh:=.int .i64
def shB:Sh:=.int .u8
def znv:Sh:=.st (.cons .bool (.cons (.sl (.int .u32)) .nil))
def zfl:Sh:=.st (.cons znv (.cons znv .nil))
def zwu:Sh:=.st (.cons zfl (.cons zfl (.cons zfl (.cons zfl (.cons zfl (.cons zfl .nil))))))
def zrz(n:Int):Dig:=dof n.toNat
def toBI(y:znv.T):BI:=⟨y.1,List.map zrz y.2.1⟩
def zs4(y:zfl.T):BR:=⟨toBI y.1,toBI y.2.1⟩
def toAF(y:zwu.T):AF:=⟨zs4 y.1,zs4 y.2.1,zs4 y.2.2.1,zs4 y.2.2.2.1,zs4 y.2.2.2.2.1,zs4 y.2.2.2.2.2.1⟩
def zCX(y:znv.T)(h:znv.wf y):qZ (znv.enc y) (biE (toBI y)):=by
 refine .C (.cons ?_ .nil);refine LEd.sl zrz λn hn=>?_
 have h1:=wf32 (h.2.1 n hn)
 have e:((zrz n).val:Int)=n:=by
  unfold zrz;rw[ky];omega
 show qZ [.val (.int .u32 n)] [.val (.int .u32 ((zrz n).val:Int))];rw[e];exact .refl
def znw(y:zfl.T)(h:zfl.wf y):qZ (zfl.enc y) (brE (zs4 y)):=qZ.append (zCX y.1 h.1) (qZ.append (zCX y.2.1 h.2.1) .nil)
def zCY(y:zwu.T)(h:zwu.wf y):qZ (zwu.enc y) (afE (toAF y)):=
 qZ.append (znw _ h.1) (qZ.append (znw _ h.2.1) (qZ.append (znw _ h.2.2.1) (qZ.append (znw _ h.2.2.2.1) (qZ.append (znw _ h.2.2.2.2.1) (by
  have:=qZ.append (znw _ h.2.2.2.2.2.1) .nil
  rwa [XE,XE]at this)))))
section
variable{H:Type}{enc:TypeId×Value->H}{W:World}{b0:Nat}{held:Bool}
end
end Go.Gs
namespace Go.Gs
open Go.Proofs Go.RowKit
def zs5:Sh:=.st (.cons shI (.cons shI .nil))
def zwv(y:zs5.T):Pt:=⟨y.1,y.2.1⟩
def shSg:Sh:=.st (.cons shI (.cons zs5 (.cons zs5 (.cons zs5 .nil))))
def zww(y:shSg.T):Sg:=⟨y.1,zwv y.2.1,zwv y.2.2.1,zwv y.2.2.2.1⟩
def toI(y:shI.T):Int:=y
def zuN:Sh:=.st (.cons shI (.cons shI (.cons shI (.cons shI (.cons (.sl shI) (.cons shI .nil))))))
def zAc(y:zuN.T):Pen:=⟨y.1,y.2.1,y.2.2.1,y.2.2.2.1,List.map toI y.2.2.2.2.1,y.2.2.2.2.2.1⟩
def zES(y:zuN.T):qZ (zuN.enc y) (jb (zAc y)):=.C (.C (.C (.C (.cons (LEd.sl toI λ_ _=>qZ.refl) (.C .nil)))))
section
variable{H:Type}{enc:TypeId×Value->H}{W:World}{b0:Nat}{held:Bool}
end
end Go.Gs
namespace Go.Gs
open Proofs.Tryz
open Go.Proofs Go.RowKit
def zAd:Sh:=.st (.cons shB (.cons shB (.cons shB (.cons shB .nil))))
def zwx(y:zAd.T):Pix:=⟨y.1,y.2.1,y.2.2.1,y.2.2.2.1⟩
def shSt:Sh:=.st (.cons shI (.cons zAd .nil))
def toSt(y:shSt.T):zh0:=⟨y.1,zwx y.2.1⟩
def zAe:Sh:=.st (.cons shI (.cons shI (.cons (.sl zAd) .nil)))
def zAf(y:zAe.T):Img:=⟨y.1,y.2.1,List.map zwx y.2.2.1⟩
def im_le(y:zAe.T):qZ (zAe.enc y) (zk6 (zAf y)):=.C (.C (.cons (LEd.sl zwx λ_ _=>qZ.refl) .nil))
def zwy:Sh:=.st (.cons shI (.cons zAd (.cons zs5 (.cons zs5 (.cons shI (.cons (.sl shSt) (.cons shI (.cons zAe (.cons shI (.cons zwu .nil))))))))))
def zrA(y:zwy.T):Pnt:=⟨y.1,zwx y.2.1,zwv y.2.2.1,zwv y.2.2.2.1,y.2.2.2.2.1,List.map toSt y.2.2.2.2.2.1,y.2.2.2.2.2.2.1,zAf y.2.2.2.2.2.2.2.1,y.2.2.2.2.2.2.2.2.1,toAF y.2.2.2.2.2.2.2.2.2.1⟩
def zCZ(y:zwy.T)(h:zwy.wf y):qZ (zwy.enc y) (yD (zrA y)):=
 .C (.C (.C (.C (.C (.C (.C (.C (.C (.C (.cons (LEd.sl toSt λ_ _=>qZ.refl) (.cons .refl
  (.C (.C (.cons (LEd.sl zwx λ_ _=>qZ.refl) (.C (by
  have:=qZ.append (zCY _ h.2.2.2.2.2.2.2.2.2.1) .nil
  rwa [XE,XE]at this))))))))))))))))
def qZ.app2{us bs cs ds xs ys:LR}(h:qZ us bs)(k:qZ cs ds)(e1:xs=us++cs)(e2:ys=bs++ds):qZ xs ys:=by rw[e1,e2];exact qZ.append h k
def shN3:Sh:=.cons (.sl zwy) (.cons zAe (.cons shI .nil))
def n3_le(y:shN3.T)(h:shN3.wf y):qZ (shN3.enc y) (.sl yD (List.map zrA y.1)::(zk6 (zAf y.2.1)++[i64 y.2.2.1])):=
 .cons (LEd.sl zrA λx hx=>zCZ x (h.1 x hx)) (qZ.app2 (im_le y.2.1) (qZ.refl (us:=[i64 y.2.2.1])) rfl rfl)
def zAg:Sh:=.cons (.sl shSg) (.cons shI (.cons shB (.cons shI (.cons .bool (.cons .bool (.cons (.sl shSg) (.cons shI (.cons (.sl zwy) (.cons zuN shN3)))))))))
def n2_le(y:zAg.T)(h:zAg.wf y):qZ (zAg.enc y) (.sl sgE (List.map zww y.1)::i64 y.2.1::u8 y.2.2.1::i64 y.2.2.2.1::.pr (@Eq Bool y.2.2.2.2.1 true) (instDecidableEqBool y.2.2.2.2.1 true)::.pr (@Eq Bool y.2.2.2.2.2.1 true) (instDecidableEqBool y.2.2.2.2.2.1 true)::.sl sgE (List.map zww y.2.2.2.2.2.2.1)::i64 y.2.2.2.2.2.2.2.1::
  .sl yD (List.map zrA y.2.2.2.2.2.2.2.2.1)::(jb (zAc y.2.2.2.2.2.2.2.2.2.1)++(.sl yD (List.map zrA y.2.2.2.2.2.2.2.2.2.2.1)::(zk6 (zAf y.2.2.2.2.2.2.2.2.2.2.2.1)++[i64 y.2.2.2.2.2.2.2.2.2.2.2.2.1])))):=
 .cons (LEd.sl zww λ_ _=>qZ.refl) (.C (.C (.C (.C (.C (.cons (LEd.sl zww λ_ _=>qZ.refl) (.C (.cons (LEd.sl zrA λx hx=>zCZ x (h.2.2.2.2.2.2.2.2.1 x hx))
  (qZ.app2 (zES y.2.2.2.2.2.2.2.2.2.1) (n3_le y.2.2.2.2.2.2.2.2.2.2 h.2.2.2.2.2.2.2.2.2.2) rfl rfl)))))))))
def zAh:Sh:=.st (.cons shI (.cons shI (.cons shI (.cons zwu zAg))))
def toNd2(i k d:Int)(t:AF)(y:zAg.T):Nd:=⟨i,k,d,t,List.map zww y.1,y.2.1,y.2.2.1,y.2.2.2.1,y.2.2.2.2.1,y.2.2.2.2.2.1,List.map zww y.2.2.2.2.2.2.1,y.2.2.2.2.2.2.2.1,List.map zrA y.2.2.2.2.2.2.2.2.1,zAc y.2.2.2.2.2.2.2.2.2.1,
 List.map zrA y.2.2.2.2.2.2.2.2.2.2.1,zAf y.2.2.2.2.2.2.2.2.2.2.2.1,y.2.2.2.2.2.2.2.2.2.2.2.2.1⟩
def toNd(y:zAh.T):Nd:=toNd2 y.1 y.2.1 y.2.2.1 (toAF y.2.2.2.1) y.2.2.2.2
def nd_le(y:zAh.T)(h:zAh.wf y):qZ (zAh.enc y) (ndE (toNd y)):=
 .C (.C (.C (qZ.app2 (zCY y.2.2.2.1 h.2.2.2.1) (n2_le y.2.2.2.2 h.2.2.2.2) rfl rfl)))
def zAi:Sh:=.st (.cons shI (.cons shI (.cons zAd (.cons (.sl zAh) .nil))))
def toSc(y:zAi.T):Sc:=⟨y.1,y.2.1,zwx y.2.2.1,List.map toNd y.2.2.2.1⟩
def sc_le(y:zAi.T)(h:zAi.wf y):qZ (zAi.enc y) (scE (toSc y)):=
 .C (.C (.C (.C (.C (.C (.cons (LEd.sl toNd λx hx=>nd_le x (h.2.2.2.1 x hx)) .nil))))))
section
variable{H:Type}{enc:TypeId×Value->H}{W:World}{b0:Nat}{held:Bool}
def open_scene{v:Value}{d:DataW H}{p:List MemPlace}(hv:Value.okWide prog W .any b0 26 v)(h:DataW.Trod enc prog W 0 (λ_=>true) held 26 v d p):
  ∃s:Sc,True/\∀(S Pm:LI) (ρ:zh),(∀b,¬S b)->G S Pm ρ W (wq s) v:=by
 obtain⟨y,hy,g⟩:=zmY zAi (by kernel_rfl) (by kernel_rfl) hv h;exact⟨toSc y,tV,g _ (sc_le y hy)⟩
def open_point{v:Value}{d:DataW H}{p:List MemPlace}(hv:Value.okWide prog W .any b0 28 v)(h:DataW.Trod enc prog W 0 (λ_=>true) held 28 v d p):
  ∃q:Pt,(R64 q.x/\R64 q.y)/\∀(S Pm:LI) (ρ:zh),(∀b,¬S b)->G S Pm ρ W (wk q) v:=by
 obtain⟨y,hy,g⟩:=zmY zs5 (by kernel_rfl) (by kernel_rfl) hv h;exact⟨zwv y,⟨wfi hy.1,wfi hy.2.1⟩,g _ qZ.refl⟩
end
def laidL:List (String×DataW Unit):=[("errors.errorType",YtakicgnbhdpknaaGreatDoor.Rows.laid_errors_errorType)]
def zCh:prog.globalNamed "errors.errorType" =some 0:=by kernel_rfl
def zCi:(prog.cutTypes.find? (·.1== "internal/reflectlite.rtype")).map (·.2)=some 288:=by kernel_rfl
def zAj:((List.range 452).filter λt=>prog.rowNamed t [101,114,114,111,114])=[152]:=by kernel_rfl
def zwz:prog.types.size=452:=by kernel_rfl
def zET:typeHandle prog 152=.pointer (some ⟨3,152,none⟩):=by kernel_rfl
def handle_of_laid{W:World}(h:laidMetH prog laidL W):∀g v,GL g v->W.cell? ⟨g,0,none⟩=some v:=by
 have h':laidMet prog [] W/\handlesMet prog laidL W:=h;obtain⟨name,u,ty,e1,e2,e3,e4,e5⟩:=h'.2 _ (Xu.2 rfl);have en:name=[101,114,114,111,114]:=(Xm e1).symm;subst en;obtain rfl:=Xm (zCi.symm.trans e2);have hm:ty∈(List.range 452).filter λt=>prog.rowNamed t [101,114,114,111,114]:=QL.2 ⟨Kd.2 (by rw[←zwz];exact e3),e4⟩
 rw[zAj]at hm;obtain rfl:=Xu.1 hm;rw[zET]at e5;have e6:W.cell? ⟨0,0,none⟩=some (.iface 288 (.agg #[.pointer (some ⟨3,152,none⟩)])):=by simpa using World.var?_cell zCh e5 0
 intro g v hg
 cases hg with
 |head=>exact e6
 |tail _ h=>cases h
noncomputable def laidWorld (os:Os):World:=
 let w0:=World.holding prog os ⟨#[],#[],[]⟩
 { w0 with heap:=w0.heap.modify 0 fun
   |.cells _ t frozen=>.cells #[.iface 288 (.agg #[.pointer (some ⟨3,152,none⟩)])] t frozen
   |o=>o }
def laidWorld_met(os:Os)(args:Array Value):laidMetH prog laidL ((laidWorld os).forCall (λ_ _=>0) ⟨#[],args,[]⟩).memory:=
 laidMetH_of_parts (laidMet_nil _ _) (by kernel_rfl)
end Go.Gs
